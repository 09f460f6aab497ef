/- Functions and contracts of the law FnExactPutResp: what the Go text computes, step by step. -/
import Derived.Test.YtfiplepbmennbaaL
import Derived.Test.YtfiplepbmennbaaQFnExactPutRespx0
import Derived.Test.YtfiplepbmennbaaQFnExactPutRespx1
import Derived.Test.YtfiplepbmennbaaQFnExactPutRespx4
import Derived.Test.YtfiplepbmennbaaQFnExactPutRespx5
import Derived.Test.YtfiplepbmennbaaQFnExactPutRespx8
import Derived.Test.YtfiplepbmennbaaQFnExactPutRespx9
import Derived.Test.YtfiplepbmennbaaQFnExactPutRespx10
namespace Go.Proofs.Ytfiplepbmennbaa.PFnExactPutResp
open Go.Proofs.Ytfiplepbmennbaa.K Go.Proofs.Ytfiplepbmennbaa.G Go.RowKit Go.Proofs.YtfiplepbmennbaaW.PrintWords Go.Proofs.YtfiplepbmennbaaW.PrintLast Go.Proofs.YtfiplepbmennbaaW.PrintMore
attribute [local go_sem] max2_int min2_int max_two min_two max_three min_three max_four min_four   -- for this text's walks alone
set_option linter.unusedVariables false
set_option linter.unusedSimpArgs false

/-! ### laws_FnExactPutResp: function 3 -/
def laws_FnExactPutResp.j0 : Nat → List Int → List Int → Bool → Int → Int → Int → Int → List Int → List Bool → Option (Bool)
 | 0, _, _, _, _, _, _, _, _, _ => none
 | k + 1, x4, x6, x42, x324000, x324001, x324002, x324003, x324004, x324005 => if x42 = true then (some false) else ((laws_markByteS.f k x6 1).bind fun bt368 => ((laws_heldByteS.f k bt368.2 1).bind fun t370 => (if t370 < 0 then (some false) else (if t370 = bt368.1 then ((laws_toResp.f k x324000 x324001 x324002 x324003 x324004 x324005).bind fun bt371 => ((impl_PutResp.f k bt371.1 bt371.2.1 bt371.2.2.1 bt371.2.2.2.1 bt371.2.2.2.2.1 bt371.2.2.2.2.2).bind fun t381 => ((laws_eqByteS.f k t381 x4).bind fun t384 => (if t384 = true then ((laws_heldByteS.f k bt368.2 1).bind fun t385 => (if t385 < 0 then (some false) else (if t385 = bt368.1 then (some true) else (some false)))) else (some false))))) else (some false)))))
def laws_FnExactPutResp.f (k : Nat) (a0_0 : Int) (a0_1 : Int) (a0_2 : Int) (a0_3 : Int) (l0_4 : List Int) (l0_5 : List Bool) : Option (Bool) := (laws_szResp.f a0_0 a0_1 a0_2 a0_3 l0_4 l0_5 1048576).bind fun t324 => (if t324 < 0 then (some true) else ((laws_toResp.f k a0_0 a0_1 a0_2 a0_3 l0_4 l0_5).bind fun bt325 => ((spec_PutResp.f k bt325.1 bt325.2.1 bt325.2.2.1 bt325.2.2.2.1 bt325.2.2.2.2.1 bt325.2.2.2.2.2).bind fun t335 => ((laws_toResp.f k a0_0 a0_1 a0_2 a0_3 l0_4 l0_5).bind fun bt338 => ((impl_PutResp.f k bt338.1 bt338.2.1 bt338.2.2.1 bt338.2.2.2.1 bt338.2.2.2.2.1 bt338.2.2.2.2.2).bind fun t349 => ((laws_eqByteS.f k t349 t335).bind fun t352 => (if t352 = true then ((laws_toResp.f k a0_0 a0_1 a0_2 a0_3 l0_4 l0_5).bind fun bt353 => ((laws_eqResp.f k bt338.1 bt338.2.1 bt338.2.2.1 bt338.2.2.2.1 bt338.2.2.2.2.1 bt338.2.2.2.2.2 bt353.1 bt353.2.1 bt353.2.2.1 bt353.2.2.2.1 bt353.2.2.2.2.1 bt353.2.2.2.2.2).bind fun t363 => (if t363 = true then ((laws_markResp.f k bt338.1 bt338.2.1 bt338.2.2.1 bt338.2.2.2.1 bt338.2.2.2.2.1 bt338.2.2.2.2.2 1).bind fun bt364 => (if bt364.1 < 0 then (laws_FnExactPutResp.j0 k t335 t349 true a0_0 a0_1 a0_2 a0_3 l0_4 l0_5) else ((laws_eqByteS.f k t349 t335).bind fun t367 => (laws_FnExactPutResp.j0 k t335 t349 (!t367) a0_0 a0_1 a0_2 a0_3 l0_4 l0_5)))) else (some false)))) else (some false))))))))
theorem laws_FnExactPutResp.mono_l : ∀ k, (∀ y0 y1 y2 y3 y4 y5 y6 y7 y8, LeO (laws_FnExactPutResp.j0 k y0 y1 y2 y3 y4 y5 y6 y7 y8) (laws_FnExactPutResp.j0 (k + 1) y0 y1 y2 y3 y4 y5 y6 y7 y8))
 | 0 => fun _ _ _ _ _ _ _ _ _ r h => by simp [laws_FnExactPutResp.j0] at h
 | k + 1 => by
  have ih0 := laws_FnExactPutResp.mono_l k
  ·intro y0 y1 y2 y3 y4 y5 y6 y7 y8
   unfold laws_FnExactPutResp.j0
   repeat' first
   | (with_reducible exact ih0 _ _ _ _ _ _ _ _ _)
   | (with_reducible exact impl_PutResp.mono _ _ _ _ _ _ _)
   | (with_reducible exact laws_eqByteS.mono _ _ _)
   | (with_reducible exact laws_eqResp.mono _ _ _ _ _ _ _ _ _ _ _ _ _)
   | (with_reducible exact laws_heldByteS.mono _ _ _)
   | (with_reducible exact laws_markByteS.mono _ _ _)
   | (with_reducible exact laws_markResp.mono _ _ _ _ _ _ _ _)
   | (with_reducible exact laws_toResp.mono _ _ _ _ _ _ _)
   | (with_reducible exact spec_PutResp.mono _ _ _ _ _ _ _)
   | (with_reducible exact LeO.refl _)
   | (with_reducible exact LeO.none _)
   | (with_reducible refine LeO.ite ?_ ?_)
   | (with_reducible refine LeO.bind ?_ (fun _ => ?_))
   | exact ih0 _ _ _ _ _ _ _ _ _
   | exact impl_PutResp.mono _ _ _ _ _ _ _
   | exact laws_eqByteS.mono _ _ _
   | exact laws_eqResp.mono _ _ _ _ _ _ _ _ _ _ _ _ _
   | exact laws_heldByteS.mono _ _ _
   | exact laws_markByteS.mono _ _ _
   | exact laws_markResp.mono _ _ _ _ _ _ _ _
   | exact laws_toResp.mono _ _ _ _ _ _ _
   | exact spec_PutResp.mono _ _ _ _ _ _ _
   | exact LeO.none _
   | refine LeO.ite ?_ ?_
   | refine LeO.bind ?_ (fun _ => ?_)
theorem laws_FnExactPutResp.mono : ∀ a0 a1 a2 a3 a4 a5 k, LeO (laws_FnExactPutResp.f k a0 a1 a2 a3 a4 a5) (laws_FnExactPutResp.f (k + 1) a0 a1 a2 a3 a4 a5) := by
 intro a0 a1 a2 a3 a4 a5 k
 have ih0 := laws_FnExactPutResp.mono_l k
 unfold laws_FnExactPutResp.f
 repeat' first
   | (with_reducible exact ih0 _ _ _ _ _ _ _ _ _)
   | (with_reducible exact impl_PutResp.mono _ _ _ _ _ _ _)
   | (with_reducible exact laws_eqByteS.mono _ _ _)
   | (with_reducible exact laws_eqResp.mono _ _ _ _ _ _ _ _ _ _ _ _ _)
   | (with_reducible exact laws_heldByteS.mono _ _ _)
   | (with_reducible exact laws_markByteS.mono _ _ _)
   | (with_reducible exact laws_markResp.mono _ _ _ _ _ _ _ _)
   | (with_reducible exact laws_toResp.mono _ _ _ _ _ _ _)
   | (with_reducible exact spec_PutResp.mono _ _ _ _ _ _ _)
   | (with_reducible exact LeO.refl _)
   | (with_reducible exact LeO.none _)
   | (with_reducible refine LeO.ite ?_ ?_)
   | (with_reducible refine LeO.bind ?_ (fun _ => ?_))
   | exact ih0 _ _ _ _ _ _ _ _ _
   | exact impl_PutResp.mono _ _ _ _ _ _ _
   | exact laws_eqByteS.mono _ _ _
   | exact laws_eqResp.mono _ _ _ _ _ _ _ _ _ _ _ _ _
   | exact laws_heldByteS.mono _ _ _
   | exact laws_markByteS.mono _ _ _
   | exact laws_markResp.mono _ _ _ _ _ _ _ _
   | exact laws_toResp.mono _ _ _ _ _ _ _
   | exact spec_PutResp.mono _ _ _ _ _ _ _
   | exact LeO.none _
   | refine LeO.ite ?_ ?_
   | refine LeO.bind ?_ (fun _ => ?_)
set_option maxHeartbeats 8000000 in
set_option maxRecDepth 100000 in
theorem laws_FnExactPutResp.calls (k : Nat) (a0_0 : Int) (a0_1 : Int) (a0_2 : Int) (a0_3 : Int) (A0_4 : Option Addr) (c0_4 : Nat) (l0_4 : List Int) (A0_5 : Option Addr) (c0_5 : Nat) (l0_5 : List Bool) (r : Bool) (w : World) (hr0_4 : Kd.C (Kd.int .i64) w A0_4 l0_4.length l0_4) (hc0_4 : l0_4.length ≤ c0_4) (hr0_5 : Kd.C Kd.bool w A0_5 l0_5.length l0_5) (hc0_5 : l0_5.length ≤ c0_5) (h : laws_FnExactPutResp.f k a0_0 a0_1 a0_2 a0_3 l0_4 l0_5 = some r) :
  Calls Try.prog 3 #[.agg #[.int .i64 a0_0, .int .i64 a0_1, .int .i64 a0_2, .int .i64 a0_3, .slice A0_4 l0_4.length c0_4, .slice A0_5 l0_5.length c0_5]] w fun e w' => e = .returned (.bool r) ∧ Below w.heap.size w w' := by
 have hu25 := Try.underlying25
 have hu29 := Try.underlying29
 have HR0_4 := aM hr0_4
 have HC0_4 := aM hc0_4
 clear hr0_4 hc0_4
 have HR0_5 := aM hr0_5
 have HC0_5 := aM hc0_5
 clear hr0_5 hc0_5
 have HB := aM (Below.refl w.heap.size w)
 have H : ((laws_szResp.f a0_0 a0_1 a0_2 a0_3 l0_4 l0_5 1048576).bind fun t324 => (if t324 < 0 then (some true) else ((laws_toResp.f k a0_0 a0_1 a0_2 a0_3 l0_4 l0_5).bind fun bt325 => ((spec_PutResp.f k bt325.1 bt325.2.1 bt325.2.2.1 bt325.2.2.2.1 bt325.2.2.2.2.1 bt325.2.2.2.2.2).bind fun t335 => ((laws_toResp.f k a0_0 a0_1 a0_2 a0_3 l0_4 l0_5).bind fun bt338 => ((impl_PutResp.f k bt338.1 bt338.2.1 bt338.2.2.1 bt338.2.2.2.1 bt338.2.2.2.2.1 bt338.2.2.2.2.2).bind fun t349 => ((laws_eqByteS.f k t349 t335).bind fun t352 => (if t352 = true then ((laws_toResp.f k a0_0 a0_1 a0_2 a0_3 l0_4 l0_5).bind fun bt353 => ((laws_eqResp.f k bt338.1 bt338.2.1 bt338.2.2.1 bt338.2.2.2.1 bt338.2.2.2.2.1 bt338.2.2.2.2.2 bt353.1 bt353.2.1 bt353.2.2.1 bt353.2.2.2.1 bt353.2.2.2.2.1 bt353.2.2.2.2.2).bind fun t363 => (if t363 = true then ((laws_markResp.f k bt338.1 bt338.2.1 bt338.2.2.1 bt338.2.2.2.1 bt338.2.2.2.2.1 bt338.2.2.2.2.2 1).bind fun bt364 => (if bt364.1 < 0 then (laws_FnExactPutResp.j0 k t335 t349 true a0_0 a0_1 a0_2 a0_3 l0_4 l0_5) else ((laws_eqByteS.f k t349 t335).bind fun t367 => (laws_FnExactPutResp.j0 k t335 t349 (!t367) a0_0 a0_1 a0_2 a0_3 l0_4 l0_5)))) else (some false)))) else (some false))))))))) = some r := h
 clear h
 replace H := Option.bind_eq_some_iff.mp H
 obtain ⟨t324, A20, H⟩ := H
 replace H : (if t324 < 0 then (some true) else ((laws_toResp.f k a0_0 a0_1 a0_2 a0_3 l0_4 l0_5).bind fun bt325 => ((spec_PutResp.f k bt325.1 bt325.2.1 bt325.2.2.1 bt325.2.2.2.1 bt325.2.2.2.2.1 bt325.2.2.2.2.2).bind fun t335 => ((laws_toResp.f k a0_0 a0_1 a0_2 a0_3 l0_4 l0_5).bind fun bt338 => ((impl_PutResp.f k bt338.1 bt338.2.1 bt338.2.2.1 bt338.2.2.2.1 bt338.2.2.2.2.1 bt338.2.2.2.2.2).bind fun t349 => ((laws_eqByteS.f k t349 t335).bind fun t352 => (if t352 = true then ((laws_toResp.f k a0_0 a0_1 a0_2 a0_3 l0_4 l0_5).bind fun bt353 => ((laws_eqResp.f k bt338.1 bt338.2.1 bt338.2.2.1 bt338.2.2.2.1 bt338.2.2.2.2.1 bt338.2.2.2.2.2 bt353.1 bt353.2.1 bt353.2.2.1 bt353.2.2.2.1 bt353.2.2.2.2.1 bt353.2.2.2.2.2).bind fun t363 => (if t363 = true then ((laws_markResp.f k bt338.1 bt338.2.1 bt338.2.2.1 bt338.2.2.2.1 bt338.2.2.2.2.1 bt338.2.2.2.2.2 1).bind fun bt364 => (if bt364.1 < 0 then (laws_FnExactPutResp.j0 k t335 t349 true a0_0 a0_1 a0_2 a0_3 l0_4 l0_5) else ((laws_eqByteS.f k t349 t335).bind fun t367 => (laws_FnExactPutResp.j0 k t335 t349 (!t367) a0_0 a0_1 a0_2 a0_3 l0_4 l0_5)))) else (some false)))) else (some false)))))))) = some r := H
 have A2 := aM A20
 clear A20
 by_cases c3 : t324 < 0
 ·rw [if_pos c3] at H
  have c3b0 : decide (t324 < 0) = true := decide_eq_true c3
  clear c3
  obtain rfl := Option.some.inj H
  go_enter Try.func3, Try.ntmps3
  go_wp2_with (first | ((with_reducible refine gate_dst (N := 1) rfl ?_); refine box_event ?hg (N := 1) ?hd (cs := #[.int .i64 a0_0, .int .i64 a0_1, .int .i64 a0_2, .int .i64 a0_3, .slice A0_4 l0_4.length c0_4, .slice A0_5 l0_5.length c0_5]) (t := 25) ?hr ?_; (case hd => rfl); (case hg => rfl); (case hr => first | (go_simp; done) | (go_simp; rfl)); intro gb323 hg w4 hbox hb; have _ := aM (below_step (bS HB.out) hb); have _ := aM (hbox); have _ := aM (leG hg (bS HB.out)); have _ := aM (leG hg (bS HB.out)); clear HB; rename_i HB BK323 GW323 GE323; clear hb hbox hg; obtain ⟨hcz5_0, hfz5_0, hcz5_1, hfz5_1, hcz5_2, hfz5_2, hcz5_3, hfz5_3, hcz5_4, hfz5_4, hcz5_5, hfz5_5⟩ := bk6 BK323.out) | ((with_reducible refine gate_callee (f := 7) rfl ?_); refine gL (some 13) rfl rfl Try.func7 (by kernel_rfl) rfl #[.agg #[.int .i64 a0_0, .int .i64 a0_1, .int .i64 a0_2, .int .i64 a0_3, .slice A0_4 l0_4.length c0_4, .slice A0_5 l0_5.length c0_5], .int .i64 1048576] rfl ?_; (with_reducible refine (laws_szResp.calls a0_0 a0_1 a0_2 a0_3 _ _ l0_4 _ _ l0_5 1048576 t324 _ ?side1 ?side2 ?side3 ?side4 A2.out).mono ?_); (case side1 => exact cB HR0_4.out HB.out); (case side2 => exact HC0_4.out); (case side3 => exact cB HR0_5.out HB.out); (case side4 => exact HC0_5.out); rintro e w6 ⟨rfl, hb⟩; refine ⟨_, rfl, ?_⟩; have _ := aM (kB BK323.out hb); have _ := aM (below_step (bS HB.out) hb); clear BK323 HB; rename_i BK323 HB; (try clear hb)))
  go_ret
  exact ⟨by first | rfl | (simp [errW_none, errW_some] <;> rfl) | (simp [*, errW_none, errW_some] <;> rfl), bS HB.out⟩
 ·rw [if_neg c3] at H
  have c3b0 : decide (t324 < 0) = false := decide_eq_false c3
  clear c3
  replace H := Option.bind_eq_some_iff.mp H
  obtain ⟨⟨t325, t326, t327, t328, t329, t332⟩, A70, H⟩ := H
  replace H : ((spec_PutResp.f k t325 t326 t327 t328 t329 t332).bind fun t335 => ((laws_toResp.f k a0_0 a0_1 a0_2 a0_3 l0_4 l0_5).bind fun bt338 => ((impl_PutResp.f k bt338.1 bt338.2.1 bt338.2.2.1 bt338.2.2.2.1 bt338.2.2.2.2.1 bt338.2.2.2.2.2).bind fun t349 => ((laws_eqByteS.f k t349 t335).bind fun t352 => (if t352 = true then ((laws_toResp.f k a0_0 a0_1 a0_2 a0_3 l0_4 l0_5).bind fun bt353 => ((laws_eqResp.f k bt338.1 bt338.2.1 bt338.2.2.1 bt338.2.2.2.1 bt338.2.2.2.2.1 bt338.2.2.2.2.2 bt353.1 bt353.2.1 bt353.2.2.1 bt353.2.2.2.1 bt353.2.2.2.2.1 bt353.2.2.2.2.2).bind fun t363 => (if t363 = true then ((laws_markResp.f k bt338.1 bt338.2.1 bt338.2.2.1 bt338.2.2.2.1 bt338.2.2.2.2.1 bt338.2.2.2.2.2 1).bind fun bt364 => (if bt364.1 < 0 then (laws_FnExactPutResp.j0 k t335 t349 true a0_0 a0_1 a0_2 a0_3 l0_4 l0_5) else ((laws_eqByteS.f k t349 t335).bind fun t367 => (laws_FnExactPutResp.j0 k t335 t349 (!t367) a0_0 a0_1 a0_2 a0_3 l0_4 l0_5)))) else (some false)))) else (some false)))))) = some r := H
  have A7 := aM A70
  clear A70
  replace H := Option.bind_eq_some_iff.mp H
  obtain ⟨t335, A80, H⟩ := H
  replace H : ((laws_toResp.f k a0_0 a0_1 a0_2 a0_3 l0_4 l0_5).bind fun bt338 => ((impl_PutResp.f k bt338.1 bt338.2.1 bt338.2.2.1 bt338.2.2.2.1 bt338.2.2.2.2.1 bt338.2.2.2.2.2).bind fun t349 => ((laws_eqByteS.f k t349 t335).bind fun t352 => (if t352 = true then ((laws_toResp.f k a0_0 a0_1 a0_2 a0_3 l0_4 l0_5).bind fun bt353 => ((laws_eqResp.f k bt338.1 bt338.2.1 bt338.2.2.1 bt338.2.2.2.1 bt338.2.2.2.2.1 bt338.2.2.2.2.2 bt353.1 bt353.2.1 bt353.2.2.1 bt353.2.2.2.1 bt353.2.2.2.2.1 bt353.2.2.2.2.2).bind fun t363 => (if t363 = true then ((laws_markResp.f k bt338.1 bt338.2.1 bt338.2.2.1 bt338.2.2.2.1 bt338.2.2.2.2.1 bt338.2.2.2.2.2 1).bind fun bt364 => (if bt364.1 < 0 then (laws_FnExactPutResp.j0 k t335 t349 true a0_0 a0_1 a0_2 a0_3 l0_4 l0_5) else ((laws_eqByteS.f k t349 t335).bind fun t367 => (laws_FnExactPutResp.j0 k t335 t349 (!t367) a0_0 a0_1 a0_2 a0_3 l0_4 l0_5)))) else (some false)))) else (some false))))) = some r := H
  have A8 := aM A80
  clear A80
  replace H := Option.bind_eq_some_iff.mp H
  obtain ⟨⟨t338, t339, t340, t341, t342, t345⟩, A90, H⟩ := H
  replace H : ((impl_PutResp.f k t338 t339 t340 t341 t342 t345).bind fun t349 => ((laws_eqByteS.f k t349 t335).bind fun t352 => (if t352 = true then ((laws_toResp.f k a0_0 a0_1 a0_2 a0_3 l0_4 l0_5).bind fun bt353 => ((laws_eqResp.f k t338 t339 t340 t341 t342 t345 bt353.1 bt353.2.1 bt353.2.2.1 bt353.2.2.2.1 bt353.2.2.2.2.1 bt353.2.2.2.2.2).bind fun t363 => (if t363 = true then ((laws_markResp.f k t338 t339 t340 t341 t342 t345 1).bind fun bt364 => (if bt364.1 < 0 then (laws_FnExactPutResp.j0 k t335 t349 true a0_0 a0_1 a0_2 a0_3 l0_4 l0_5) else ((laws_eqByteS.f k t349 t335).bind fun t367 => (laws_FnExactPutResp.j0 k t335 t349 (!t367) a0_0 a0_1 a0_2 a0_3 l0_4 l0_5)))) else (some false)))) else (some false)))) = some r := H
  have A9 := aM A90
  clear A90
  replace H := Option.bind_eq_some_iff.mp H
  obtain ⟨t349, A100, H⟩ := H
  replace H : ((laws_eqByteS.f k t349 t335).bind fun t352 => (if t352 = true then ((laws_toResp.f k a0_0 a0_1 a0_2 a0_3 l0_4 l0_5).bind fun bt353 => ((laws_eqResp.f k t338 t339 t340 t341 t342 t345 bt353.1 bt353.2.1 bt353.2.2.1 bt353.2.2.2.1 bt353.2.2.2.2.1 bt353.2.2.2.2.2).bind fun t363 => (if t363 = true then ((laws_markResp.f k t338 t339 t340 t341 t342 t345 1).bind fun bt364 => (if bt364.1 < 0 then (laws_FnExactPutResp.j0 k t335 t349 true a0_0 a0_1 a0_2 a0_3 l0_4 l0_5) else ((laws_eqByteS.f k t349 t335).bind fun t367 => (laws_FnExactPutResp.j0 k t335 t349 (!t367) a0_0 a0_1 a0_2 a0_3 l0_4 l0_5)))) else (some false)))) else (some false))) = some r := H
  have A10 := aM A100
  clear A100
  replace H := Option.bind_eq_some_iff.mp H
  obtain ⟨t352, A110, H⟩ := H
  replace H : (if t352 = true then ((laws_toResp.f k a0_0 a0_1 a0_2 a0_3 l0_4 l0_5).bind fun bt353 => ((laws_eqResp.f k t338 t339 t340 t341 t342 t345 bt353.1 bt353.2.1 bt353.2.2.1 bt353.2.2.2.1 bt353.2.2.2.2.1 bt353.2.2.2.2.2).bind fun t363 => (if t363 = true then ((laws_markResp.f k t338 t339 t340 t341 t342 t345 1).bind fun bt364 => (if bt364.1 < 0 then (laws_FnExactPutResp.j0 k t335 t349 true a0_0 a0_1 a0_2 a0_3 l0_4 l0_5) else ((laws_eqByteS.f k t349 t335).bind fun t367 => (laws_FnExactPutResp.j0 k t335 t349 (!t367) a0_0 a0_1 a0_2 a0_3 l0_4 l0_5)))) else (some false)))) else (some false)) = some r := H
  have A11 := aM A110
  clear A110
  by_cases c12 : t352 = true
  ·subst c12
   have H1 : ((laws_toResp.f k a0_0 a0_1 a0_2 a0_3 l0_4 l0_5).bind fun bt353 => ((laws_eqResp.f k t338 t339 t340 t341 t342 t345 bt353.1 bt353.2.1 bt353.2.2.1 bt353.2.2.2.1 bt353.2.2.2.2.1 bt353.2.2.2.2.2).bind fun t363 => (if t363 = true then ((laws_markResp.f k t338 t339 t340 t341 t342 t345 1).bind fun bt364 => (if bt364.1 < 0 then (laws_FnExactPutResp.j0 k t335 t349 true a0_0 a0_1 a0_2 a0_3 l0_4 l0_5) else ((laws_eqByteS.f k t349 t335).bind fun t367 => (laws_FnExactPutResp.j0 k t335 t349 (!t367) a0_0 a0_1 a0_2 a0_3 l0_4 l0_5)))) else (some false)))) = some r := by rw [if_pos rfl] at H; exact H
   clear H
   have H := H1
   clear H1
   replace H := Option.bind_eq_some_iff.mp H
   obtain ⟨⟨t353, t354, t355, t356, t357, t360⟩, A130, H⟩ := H
   replace H : ((laws_eqResp.f k t338 t339 t340 t341 t342 t345 t353 t354 t355 t356 t357 t360).bind fun t363 => (if t363 = true then ((laws_markResp.f k t338 t339 t340 t341 t342 t345 1).bind fun bt364 => (if bt364.1 < 0 then (laws_FnExactPutResp.j0 k t335 t349 true a0_0 a0_1 a0_2 a0_3 l0_4 l0_5) else ((laws_eqByteS.f k t349 t335).bind fun t367 => (laws_FnExactPutResp.j0 k t335 t349 (!t367) a0_0 a0_1 a0_2 a0_3 l0_4 l0_5)))) else (some false))) = some r := H
   have A13 := aM A130
   clear A130
   replace H := Option.bind_eq_some_iff.mp H
   obtain ⟨t363, A140, H⟩ := H
   replace H : (if t363 = true then ((laws_markResp.f k t338 t339 t340 t341 t342 t345 1).bind fun bt364 => (if bt364.1 < 0 then (laws_FnExactPutResp.j0 k t335 t349 true a0_0 a0_1 a0_2 a0_3 l0_4 l0_5) else ((laws_eqByteS.f k t349 t335).bind fun t367 => (laws_FnExactPutResp.j0 k t335 t349 (!t367) a0_0 a0_1 a0_2 a0_3 l0_4 l0_5)))) else (some false)) = some r := H
   have A14 := aM A140
   clear A140
   by_cases c15 : t363 = true
   ·subst c15
    have H1 : ((laws_markResp.f k t338 t339 t340 t341 t342 t345 1).bind fun bt364 => (if bt364.1 < 0 then (laws_FnExactPutResp.j0 k t335 t349 true a0_0 a0_1 a0_2 a0_3 l0_4 l0_5) else ((laws_eqByteS.f k t349 t335).bind fun t367 => (laws_FnExactPutResp.j0 k t335 t349 (!t367) a0_0 a0_1 a0_2 a0_3 l0_4 l0_5)))) = some r := by rw [if_pos rfl] at H; exact H
    clear H
    have H := H1
    clear H1
    replace H := Option.bind_eq_some_iff.mp H
    obtain ⟨⟨t364, t365, t366⟩, A160, H⟩ := H
    replace H : (if t364 < 0 then (laws_FnExactPutResp.j0 k t335 t349 true a0_0 a0_1 a0_2 a0_3 l0_4 l0_5) else ((laws_eqByteS.f k t349 t335).bind fun t367 => (laws_FnExactPutResp.j0 k t335 t349 (!t367) a0_0 a0_1 a0_2 a0_3 l0_4 l0_5))) = some r := H
    have A16 := aM A160
    clear A160
    have HC17 := aM H
    clear H
    go_enter Try.func3, Try.ntmps3
    try go_wp2_with (first | ((with_reducible refine gate_dst (N := 1) rfl ?_); refine box_event ?hg (N := 1) ?hd (cs := #[.int .i64 a0_0, .int .i64 a0_1, .int .i64 a0_2, .int .i64 a0_3, .slice A0_4 l0_4.length c0_4, .slice A0_5 l0_5.length c0_5]) (t := 25) ?hr ?_; (case hd => rfl); (case hg => rfl); (case hr => first | (go_simp; done) | (go_simp; rfl)); intro gb323 hg w18 hbox hb; have _ := aM (below_step (bS HB.out) hb); have _ := aM (hbox); have _ := aM (leG hg (bS HB.out)); have _ := aM (leG hg (bS HB.out)); clear HB; rename_i HB BK323 GW323 GE323; clear hb hbox hg; obtain ⟨hcz19_0, hfz19_0, hcz19_1, hfz19_1, hcz19_2, hfz19_2, hcz19_3, hfz19_3, hcz19_4, hfz19_4, hcz19_5, hfz19_5⟩ := bk6 BK323.out) | ((with_reducible refine gate_callee (f := 7) rfl ?_); refine gL (some 13) rfl rfl Try.func7 (by kernel_rfl) rfl #[.agg #[.int .i64 a0_0, .int .i64 a0_1, .int .i64 a0_2, .int .i64 a0_3, .slice A0_4 l0_4.length c0_4, .slice A0_5 l0_5.length c0_5], .int .i64 1048576] rfl ?_; (with_reducible refine (laws_szResp.calls a0_0 a0_1 a0_2 a0_3 _ _ l0_4 _ _ l0_5 1048576 t324 _ ?side1 ?side2 ?side3 ?side4 A2.out).mono ?_); (case side1 => exact cB HR0_4.out HB.out); (case side2 => exact HC0_4.out); (case side3 => exact cB HR0_5.out HB.out); (case side4 => exact HC0_5.out); rintro e w20 ⟨rfl, hb⟩; refine ⟨_, rfl, ?_⟩; have _ := aM (kB BK323.out hb); have _ := aM (below_step (bS HB.out) hb); clear BK323 HB; rename_i BK323 HB; (try clear hb); obtain ⟨hcz21_0, hfz21_0, hcz21_1, hfz21_1, hcz21_2, hfz21_2, hcz21_3, hfz21_3, hcz21_4, hfz21_4, hcz21_5, hfz21_5⟩ := bk6 BK323.out) | ((with_reducible refine gate_callee (f := 9) rfl ?_); refine gL (some 17) rfl rfl Try.func9 (by kernel_rfl) rfl #[.agg #[.int .i64 a0_0, .int .i64 a0_1, .int .i64 a0_2, .int .i64 a0_3, .slice A0_4 l0_4.length c0_4, .slice A0_5 l0_5.length c0_5]] rfl ?_; (with_reducible refine (laws_toResp.calls k a0_0 a0_1 a0_2 a0_3 _ _ l0_4 _ _ l0_5 t325 t326 t327 t328 t329 t332 _ ?side1 ?side2 ?side3 ?side4 A7.out).mono ?_); (case side1 => exact cB HR0_4.out HB.out); (case side2 => exact HC0_4.out); (case side3 => exact cB HR0_5.out HB.out); (case side4 => exact HC0_5.out); rintro e w22 ⟨v330, v333, rfl, ho0, ho1, hb⟩; refine ⟨_, rfl, ?_⟩; have _ := aM (Kd.R_lower ho0 (below_size (bS HB.out))); have _ := aM (Kd.R_lower ho1 (below_size (bS HB.out))); have _ := aM (kB BK323.out hb); have _ := aM (below_step (bS HB.out) hb); clear BK323 HB; rename_i HO331 HO334 BK323 HB; (try clear hb); (try clear ho0); (try clear ho1); obtain ⟨Ao23, co23, eo23⟩ := Kd.R_slice HO331.out; subst eo23; obtain ⟨Ao24, co24, eo24⟩ := Kd.R_slice HO334.out; subst eo24) | ((with_reducible refine gate_callee (f := 8) rfl ?_); refine gL (some 18) rfl rfl Try.func8 (by kernel_rfl) rfl #[.agg #[.int .i64 t325, .int .i64 t326, .int .i64 t327, .int .i64 t328, .slice Ao23 t329.length co23, .slice Ao24 t332.length co24]] rfl ?_; (with_reducible refine (spec_PutResp.calls k t325 t326 t327 t328 _ _ t329 _ _ t332 t335 _ ?side1 ?side2 ?side3 ?side4 A8.out).mono ?_); (case side1 => exact cR HO331.out); (case side2 => exact (Kd.R_reads' HO331.out).2.1); (case side3 => exact cR HO334.out); (case side4 => exact (Kd.R_reads' HO334.out).2.1); rintro e w25 ⟨v336, rfl, ho0, hb⟩; refine ⟨_, rfl, ?_⟩; have _ := aM (rB HO331.out hb); have _ := aM (rB HO334.out hb); have _ := aM (Kd.V_lower (Kd.V_mono (ok' := fun k_ => some k_ ≠ (.slice Ao23 t329.length co23 : Value).ownBlock ∧ some k_ ≠ (.slice Ao24 t332.length co24 : Value).ownBlock ∧ k_ ≠ gb323) ho0 (fun k_ hk_ => ⟨(Kd.fresh' (Kd.R_lt (rA HO331.out)) k_ hk_), (Kd.fresh' (Kd.R_lt (rA HO334.out)) k_ hk_), (Kd.freshB (g := gb323) (o := .cells #[.int .i64 a0_0, .int .i64 a0_1, .int .i64 a0_2, .int .i64 a0_3, .slice A0_4 l0_4.length c0_4, .slice A0_5 l0_5.length c0_5] 25 (0, 0)) (kA BK323.out) k_ hk_)⟩)) (below_size (bS HB.out))); have _ := aM (kB BK323.out hb); have _ := aM (below_step (bS HB.out) hb); clear HO331 HO334 BK323 HB; rename_i HO331 HO334 HO337 BK323 HB; (try clear hb); (try clear ho0); obtain ⟨hcz26_0, hfz26_0, hcz26_1, hfz26_1, hcz26_2, hfz26_2, hcz26_3, hfz26_3, hcz26_4, hfz26_4, hcz26_5, hfz26_5⟩ := bk6 BK323.out) | ((with_reducible refine gate_callee (f := 9) rfl ?_); refine gL (some 20) rfl rfl Try.func9 (by kernel_rfl) rfl #[.agg #[.int .i64 a0_0, .int .i64 a0_1, .int .i64 a0_2, .int .i64 a0_3, .slice A0_4 l0_4.length c0_4, .slice A0_5 l0_5.length c0_5]] rfl ?_; (with_reducible refine (laws_toResp.calls k a0_0 a0_1 a0_2 a0_3 _ _ l0_4 _ _ l0_5 t338 t339 t340 t341 t342 t345 _ ?side1 ?side2 ?side3 ?side4 A9.out).mono ?_); (case side1 => exact cB HR0_4.out HB.out); (case side2 => exact HC0_4.out); (case side3 => exact cB HR0_5.out HB.out); (case side4 => exact HC0_5.out); rintro e w27 ⟨v343, v346, rfl, ho0, ho1, hb⟩; refine ⟨_, rfl, ?_⟩; have _ := aM (Kd.R_elder' (rA HO331.out) (Kd.R_base ho0) hb); have _ := aM (Kd.R_elder' (rA HO334.out) (Kd.R_base ho1) hb); have _ := aM (Kd.V_mono (Kd.V_told (Kd.V_told (Kd.V_old (by (with_reducible repeat (first | apply Kd.V_alloc | apply Kd.V_drewN | apply Kd.V_drew)); exact HO337.out) hb) (Kd.R_base ho0)) (Kd.R_base ho1)) (fun _ h_ => by first | exact h_.1 | (have h2_ := h_.1; simp only [ne_eq] at h2_ ⊢; simp [h2_]))); have _ := aM (Kd.R_lower (Kd.R_new' ho0 (Kd.R_lt (rA HO331.out))) (below_size (bS HB.out))); have _ := aM (Kd.R_lower (Kd.R_new' ho1 (Kd.R_lt (rA HO334.out))) (below_size (bS HB.out))); have _ := aM (kB BK323.out hb); have _ := aM (below_step (bS HB.out) hb); clear HO331 HO334 HO337 BK323 HB; rename_i HO331 HO334 HO337 HO344 HO347 BK323 HB; (try clear hb); (try clear ho0); (try clear ho1)) | ((with_reducible refine gate_dst (N := 5) rfl ?_); refine box_event ?hg (N := 5) ?hd (cs := #[.int .i64 0, .int .i64 0, .int .i64 0, .int .i64 0, .slice none 0 0, .slice none 0 0]) (t := 29) ?hr ?_; (case hd => rfl); (case hg => rfl); (case hr => first | (go_simp; done) | (go_simp; rfl)); intro gb348 hg w28 hbox hb; have _ := aM (rB HO331.out hb); have _ := aM (rB HO334.out hb); have _ := aM (Kd.V_below (Kd.V_elderB (by (with_reducible repeat (first | apply Kd.V_alloc | apply Kd.V_drewN | apply Kd.V_drew)); exact HO337.out) gb348 (Nat.le_of_eq hg.symm)) hb); have _ := aM (rB HO344.out hb); have _ := aM (rB HO347.out hb); have _ := aM (kB BK323.out hb); have _ := aM (below_step (bS HB.out) hb); have _ := aM (hbox); have _ := aM (leG hg (bS HB.out)); have _ := aM (leG hg (bS HB.out)); have _ := aM (neL hg (kA BK323.out)); have _ := aM (neG hg (kA BK323.out)); clear HO331 HO334 HO337 HO344 HO347 BK323 HB; rename_i HO331 HO334 HO337 HO344 HO347 BK323 HB BK348 GW348 GE348 NB323_348 NB348_323; clear hb hbox hg; have hnb29 := NB348_323.out; have hnc29 := NB323_348.out; obtain ⟨hcz30_0, hfz30_0, hcz30_1, hfz30_1, hcz30_2, hfz30_2, hcz30_3, hfz30_3, hcz30_4, hfz30_4, hcz30_5, hfz30_5⟩ := bk6 BK348.out; obtain ⟨Ao31, co31, eo31⟩ := Kd.R_slice HO344.out; subst eo31; obtain ⟨Ao32, co32, eo32⟩ := Kd.R_slice HO347.out; subst eo32) | ((with_reducible refine gate_callee (f := 10) rfl ?_); refine gL (some 22) rfl rfl Try.func10 (by kernel_rfl) rfl #[.agg #[.int .i64 t338, .int .i64 t339, .int .i64 t340, .int .i64 t341, .slice Ao31 t342.length co31, .slice Ao32 t345.length co32]] rfl ?_; (with_reducible refine (impl_PutResp.calls k t338 t339 t340 t341 _ _ t342 _ _ t345 t349 _ ?side1 ?side2 ?side3 ?side4 A10.out).mono ?_); (case side1 => exact (Kd.R_reads' (rF6 HO344.out BK348.out)).2.2); (case side2 => exact (Kd.R_reads' HO344.out).2.1); (case side3 => exact (Kd.R_reads' (rF6 HO347.out BK348.out)).2.2); (case side4 => exact (Kd.R_reads' HO347.out).2.1); rintro e w33 ⟨v350, rfl, ho0, hb⟩; refine ⟨_, rfl, ?_⟩; have _ := aM (Kd.R_below (rF6 HO331.out BK348.out) hb); have _ := aM (Kd.R_below (rF6 HO334.out BK348.out) hb); have _ := aM (Kd.V_elder' (by (with_reducible repeat (first | apply Kd.V_alloc | apply Kd.V_drewN | apply Kd.V_drew)); exact (Kd.V_mono (Kd.V_far (p := ⟨gb348, 5, none⟩) (Kd.V_far (p := ⟨gb348, 4, none⟩) (Kd.V_far (p := ⟨gb348, 3, none⟩) (Kd.V_far (p := ⟨gb348, 2, none⟩) (Kd.V_far (p := ⟨gb348, 1, none⟩) (Kd.V_far (p := ⟨gb348, 0, none⟩) (Kd.V_mono HO337.out (fun k_ hk => (⟨hk, hk.2⟩ : _ ∧ k_ ≠ gb348))) (fun _ hk => hk.2) (.int .i64 t338)) (fun _ hk => hk.2) (.int .i64 t339)) (fun _ hk => hk.2) (.int .i64 t340)) (fun _ hk => hk.2) (.int .i64 t341)) (fun _ hk => hk.2) (.slice Ao31 t342.length co31)) (fun _ hk => hk.2) (.slice Ao32 t345.length co32)) (fun _ h_ => by first | exact h_.1 | (have h2_ := h_.1; simp only [ne_eq] at h2_ ⊢; simp [h2_])))) (Kd.R_base ho0) hb); have _ := aM (Kd.R_below (rF6 HO344.out BK348.out) hb); have _ := aM (Kd.R_below (rF6 HO347.out BK348.out) hb); have _ := aM (Kd.R_lower ho0 (below_size (bS HB.out))); have _ := aM (blk_below (kF6 BK323.out NB323_348.out) hb); have _ := aM (blk_below (kP6 BK348.out) hb); have _ := aM (below_step (bS HB.out) hb); clear HO331 HO334 HO337 HO344 HO347 BK323 BK348 HB; rename_i HO331 HO334 HO337 HO344 HO347 HO351 BK323 BK348 HB; (try clear hb); (try clear hk); (try clear ho0); obtain ⟨Ao34, co34, eo34⟩ := Kd.R_slice HO351.out; subst eo34; obtain ⟨Ao35, co35, eo35⟩ := Kd.V_slice HO337.out; subst eo35) | ((with_reducible refine gate_callee (f := 11) rfl ?_); refine gL (some 25) rfl rfl Try.func11 (by kernel_rfl) rfl #[.slice Ao34 t349.length co34, .slice Ao35 t335.length co35] rfl ?_; (with_reducible refine (laws_eqByteS.calls k _ _ t349 _ _ t335 true _ ?side1 ?side2 ?side3 ?side4 A11.out).mono ?_); (case side1 => exact cR HO351.out); (case side2 => exact (Kd.R_reads' HO351.out).2.1); (case side3 => repeat (first | exact (Kd.V_reads' HO337.out).2.2 | (with_reducible refine Kd.C_alloc ?_ _) | (with_reducible refine Kd.C_drewN ?_ _) | (with_reducible refine Kd.C_drew ?_))); (case side4 => exact (Kd.V_reads' HO337.out).2.1); rintro e w' ⟨rfl, ⟨nd, rfl⟩⟩; refine ⟨_, rfl, ?_⟩))
    (try (rw [drewN_self w33]; generalize hq_ : World.drewN w33 _ = w33; have n0_ : Aside0 (Kd.R (Kd.int .i64) 3 w33 w.heap.size (fun k_ => some k_ ≠ (.slice Ao31 t342.length co31 : Value).ownBlock) (.slice Ao23 t329.length co23) t329) := ⟨by rw [← hq_]; exact (by (with_reducible repeat (first | apply Kd.R_alloc | apply Kd.R_drewN | apply Kd.R_drew)); exact Kd.R_mono HO331.out (fun _ hk => hk.2))⟩; have n1_ : Aside0 (Kd.R Kd.bool 4 w33 w.heap.size (fun k_ => some k_ ≠ (.slice Ao32 t345.length co32 : Value).ownBlock) (.slice Ao24 t332.length co24) t332) := ⟨by rw [← hq_]; exact (by (with_reducible repeat (first | apply Kd.R_alloc | apply Kd.R_drewN | apply Kd.R_drew)); exact Kd.R_mono HO334.out (fun _ hk => hk.2))⟩; have n2_ : Aside0 (Kd.V (Kd.int .u8) 5 w33 w.heap.size (fun k_ => some k_ ≠ (.slice Ao23 t329.length co23 : Value).ownBlock ∧ some k_ ≠ (.slice Ao24 t332.length co24 : Value).ownBlock ∧ some k_ ≠ (.slice Ao31 t342.length co31 : Value).ownBlock ∧ some k_ ≠ (.slice Ao32 t345.length co32 : Value).ownBlock ∧ some k_ ≠ (.slice Ao34 t349.length co34 : Value).ownBlock ∧ k_ ≠ gb323 ∧ k_ ≠ gb348) (.slice Ao35 t335.length co35) t335) := ⟨by rw [← hq_]; exact (by (with_reducible repeat (first | apply Kd.V_alloc | apply Kd.V_drewN | apply Kd.V_drew)); exact Kd.V_mono HO337.out (fun _ hk => by first | exact ⟨hk.1.1.1.1.1, ⟨hk.1.1.1.1.2.1, ⟨hk.1.1.1.2, ⟨hk.1.1.2, ⟨hk.2, ⟨hk.1.1.1.1.2.2, hk.1.2⟩⟩⟩⟩⟩⟩ | (simp only [ne_eq] at hk ⊢; simp [hk])))⟩; have n3_ : Aside0 (Kd.R (Kd.int .i64) 3 w33 w.heap.size (fun k_ => some k_ ≠ (.slice Ao23 t329.length co23 : Value).ownBlock) (.slice Ao31 t342.length co31) t342) := ⟨by rw [← hq_]; exact (by (with_reducible repeat (first | apply Kd.R_alloc | apply Kd.R_drewN | apply Kd.R_drew)); exact Kd.R_mono HO344.out (fun _ hk => hk.2))⟩; have n4_ : Aside0 (Kd.R Kd.bool 4 w33 w.heap.size (fun k_ => some k_ ≠ (.slice Ao24 t332.length co24 : Value).ownBlock) (.slice Ao32 t345.length co32) t345) := ⟨by rw [← hq_]; exact (by (with_reducible repeat (first | apply Kd.R_alloc | apply Kd.R_drewN | apply Kd.R_drew)); exact Kd.R_mono HO347.out (fun _ hk => hk.2))⟩; have n5_ : Aside0 (Kd.R (Kd.int .u8) 5 w33 w.heap.size (fun _ => True) (.slice Ao34 t349.length co34) t349) := ⟨by rw [← hq_]; exact (rA HO351.out)⟩; have n6_ : Aside0 (w33.heap[gb323]? = some (.cells #[.int .i64 a0_0, .int .i64 a0_1, .int .i64 a0_2, .int .i64 a0_3, .slice A0_4 l0_4.length c0_4, .slice A0_5 l0_5.length c0_5] 25 (0, 0))) := ⟨by rw [← hq_]; exact (kA BK323.out)⟩; have n7_ : Aside0 (w33.heap[gb348]? = some (.cells #[.int .i64 t338, .int .i64 t339, .int .i64 t340, .int .i64 t341, .slice Ao31 t342.length co31, .slice Ao32 t345.length co32] 29 (0, 0))) := ⟨by rw [← hq_]; exact (kA BK348.out)⟩; have n8_ : Aside0 (Below w.heap.size w w33) := ⟨by rw [← hq_]; exact (bS HB.out)⟩; clear HO331 HO334 HO337 HO344 HO347 HO351 BK323 BK348 HB hq_; have HO331 := n0_; have HO334 := n1_; have HO337 := n2_; have HO344 := n3_; have HO347 := n4_; have HO351 := n5_; have BK323 := n6_; have BK348 := n7_; have HB := n8_; clear n0_ n1_ n2_ n3_ n4_ n5_ n6_ n7_ n8_; have hcugb323_0 : w33.cell? ⟨gb323, 0, none⟩ = some (.int .i64 a0_0) := (blk_cell BK323.out 0).trans rfl; have hfugb323_0 := blk_frozen BK323.out 0; have hcugb323_1 : w33.cell? ⟨gb323, 1, none⟩ = some (.int .i64 a0_1) := (blk_cell BK323.out 1).trans rfl; have hfugb323_1 := blk_frozen BK323.out 1; have hcugb323_2 : w33.cell? ⟨gb323, 2, none⟩ = some (.int .i64 a0_2) := (blk_cell BK323.out 2).trans rfl; have hfugb323_2 := blk_frozen BK323.out 2; have hcugb323_3 : w33.cell? ⟨gb323, 3, none⟩ = some (.int .i64 a0_3) := (blk_cell BK323.out 3).trans rfl; have hfugb323_3 := blk_frozen BK323.out 3; have hcugb323_4 : w33.cell? ⟨gb323, 4, none⟩ = some (.slice A0_4 l0_4.length c0_4) := (blk_cell BK323.out 4).trans rfl; have hfugb323_4 := blk_frozen BK323.out 4; have hcugb323_5 : w33.cell? ⟨gb323, 5, none⟩ = some (.slice A0_5 l0_5.length c0_5) := (blk_cell BK323.out 5).trans rfl; have hfugb323_5 := blk_frozen BK323.out 5; have hcugb348_0 : w33.cell? ⟨gb348, 0, none⟩ = some (.int .i64 t338) := (blk_cell BK348.out 0).trans rfl; have hfugb348_0 := blk_frozen BK348.out 0; have hcugb348_1 : w33.cell? ⟨gb348, 1, none⟩ = some (.int .i64 t339) := (blk_cell BK348.out 1).trans rfl; have hfugb348_1 := blk_frozen BK348.out 1; have hcugb348_2 : w33.cell? ⟨gb348, 2, none⟩ = some (.int .i64 t340) := (blk_cell BK348.out 2).trans rfl; have hfugb348_2 := blk_frozen BK348.out 2; have hcugb348_3 : w33.cell? ⟨gb348, 3, none⟩ = some (.int .i64 t341) := (blk_cell BK348.out 3).trans rfl; have hfugb348_3 := blk_frozen BK348.out 3; have hcugb348_4 : w33.cell? ⟨gb348, 4, none⟩ = some (.slice Ao31 t342.length co31) := (blk_cell BK348.out 4).trans rfl; have hfugb348_4 := blk_frozen BK348.out 4; have hcugb348_5 : w33.cell? ⟨gb348, 5, none⟩ = some (.slice Ao32 t345.length co32) := (blk_cell BK348.out 5).trans rfl; have hfugb348_5 := blk_frozen BK348.out 5))
    have n0_ := aM (Kd.R_drew HO331.out)
    have n1_ := aM (Kd.R_drew HO334.out)
    have n2_ := aM (Kd.V_drew HO337.out)
    have n3_ := aM (Kd.R_drew HO344.out)
    have n4_ := aM (Kd.R_drew HO347.out)
    have n5_ := aM (Kd.R_drew HO351.out)
    have n6_ := aM (blk_drew BK323.out)
    have n7_ := aM (blk_drew BK348.out)
    have n8_ := aM (below_drew1 HB.out)
    clear HO331
    clear HO334
    clear HO337
    clear HO344
    clear HO347
    clear HO351
    clear BK323
    clear BK348
    clear HB
    have HO331 := n0_
    have HO334 := n1_
    have HO337 := n2_
    have HO344 := n3_
    have HO347 := n4_
    have HO351 := n5_
    have BK323 := n6_
    have BK348 := n7_
    have HB := n8_
    clear n0_ n1_ n2_ n3_ n4_ n5_ n6_ n7_ n8_
    refine start_ (n := 5) (S := fun w' => w'.cell? ⟨gb348, 0, none⟩ = some (.int .i64 t338) ∧ w'.cell? ⟨gb348, 1, none⟩ = some (.int .i64 t339) ∧ w'.cell? ⟨gb348, 2, none⟩ = some (.int .i64 t340) ∧ w'.cell? ⟨gb348, 3, none⟩ = some (.int .i64 t341) ∧ w'.cell? ⟨gb348, 4, none⟩ = some (.slice Ao31 t342.length co31) ∧ w'.cell? ⟨gb348, 5, none⟩ = some (.slice Ao32 t345.length co32) ∧ w'.cell? ⟨gb323, 0, none⟩ = some (.int .i64 a0_0) ∧ w'.cell? ⟨gb323, 1, none⟩ = some (.int .i64 a0_1) ∧ w'.cell? ⟨gb323, 2, none⟩ = some (.int .i64 a0_2) ∧ w'.cell? ⟨gb323, 3, none⟩ = some (.int .i64 a0_3) ∧ w'.cell? ⟨gb323, 4, none⟩ = some (.slice A0_4 l0_4.length c0_4) ∧ w'.cell? ⟨gb323, 5, none⟩ = some (.slice A0_5 l0_5.length c0_5)) (ds := []) #[false, false, false, false, false] (by kernel_rfl) rfl rfl ⟨(blk_cell BK348.out 0).trans rfl, (blk_cell BK348.out 1).trans rfl, (blk_cell BK348.out 2).trans rfl, (blk_cell BK348.out 3).trans rfl, (blk_cell BK348.out 4).trans rfl, (blk_cell BK348.out 5).trans rfl, (blk_cell BK323.out 0).trans rfl, (blk_cell BK323.out 1).trans rfl, (blk_cell BK323.out 2).trans rfl, (blk_cell BK323.out 3).trans rfl, (blk_cell BK323.out 4).trans rfl, (blk_cell BK323.out 5).trans rfl⟩ (fun hHeld => ?_)
    generalize w33.drew = w36 at HO331 HO334 HO337 HO344 HO347 HO351 BK323 BK348 HB hHeld ⊢
    refine take_ (i := 0) (N := some 27) (v := ?_) (a' := ?_) #[true, false, false, false, false] rfl rfl (by kernel_rfl) (fun _ _ _ h => h) (Or.inl ⟨by rfl, ?_⟩) hHeld ?_ ?_
    rotate_left
    ·rintro w' ⟨s0, s1, s2, s3, s4, s5, s6, s7, s8, s9, s10, s11⟩
     go_simp
     with_reducible rfl
    rotate_left
    ·simp only [Act.put, List.setIfInBounds_toArray, List.set_cons_zero, List.set_cons_succ, i64_w, i32_w]
     rfl
    refine take_ (i := 1) (N := some 28) (v := ?_) (a' := ?_) #[true, true, false, false, false] rfl rfl (by kernel_rfl) (fun _ _ _ h => h) (Or.inl ⟨by rfl, ?_⟩) hHeld ?_ ?_
    rotate_left
    ·rintro w' ⟨s0, s1, s2, s3, s4, s5, s6, s7, s8, s9, s10, s11⟩
     go_simp
     with_reducible rfl
    rotate_left
    ·simp only [Act.put, List.setIfInBounds_toArray, List.set_cons_zero, List.set_cons_succ, i64_w, i32_w]
     rfl
    refine one_ (i := 2) (N := some 29) #[true, true, true, false, false] rfl rfl (by kernel_rfl) (by decide) (fun K hK => ?_)
    refine goes_ Try.func9 (by kernel_rfl) rfl #[.agg #[.int .i64 a0_0, .int .i64 a0_1, .int .i64 a0_2, .int .i64 a0_3, .slice A0_4 l0_4.length c0_4, .slice A0_5 l0_5.length c0_5]] (by rfl) rfl rfl (by (try simp only [List.map_toArray, List.map_cons, List.map_nil]); first | done | rfl | (simp only [List.length_drop, List.length_take]; rfl)) ?_
    with_reducible refine (laws_toResp.calls k a0_0 a0_1 a0_2 a0_3 _ _ l0_4 _ _ l0_5 t353 t354 t355 t356 t357 t360 _ ?side1 ?side2 ?side3 ?side4 A13.out).mono ?_
    (case side1 => exact cB HR0_4.out HB.out)
    (case side2 => exact HC0_4.out)
    (case side3 => exact cB HR0_5.out HB.out)
    (case side4 => exact HC0_5.out)
    rintro e w37 ⟨v358, v361, rfl, ho0, ho1, hb⟩
    refine ⟨_, rfl, ?_⟩
    have n0_ := aM (Kd.R_elder' (rA HO331.out) (Kd.R_base ho0) hb)
    have n1_ := aM (Kd.R_elder' (rA HO334.out) (Kd.R_base ho1) hb)
    have n2_ := aM (Kd.V_mono (Kd.V_told (Kd.V_told (Kd.V_old (by (with_reducible repeat (first | apply Kd.V_alloc | apply Kd.V_drewN | apply Kd.V_drew)); exact HO337.out) hb) (Kd.R_base ho0)) (Kd.R_base ho1)) (fun _ h_ => by first | exact h_.1 | (have h2_ := h_.1; simp only [ne_eq] at h2_ ⊢; simp [h2_])))
    have n3_ := aM (Kd.R_elder' (rA HO344.out) (Kd.R_base ho0) hb)
    have n4_ := aM (Kd.R_elder' (rA HO347.out) (Kd.R_base ho1) hb)
    have n5_ := aM (rB HO351.out hb)
    have n6_ := aM (Kd.R_lower (Kd.R_new' (Kd.R_new' ho0 (Kd.R_lt (rA HO331.out))) (Kd.R_lt (rA HO344.out))) (below_size (bS HB.out)))
    have n7_ := aM (Kd.R_lower (Kd.R_new' (Kd.R_new' ho1 (Kd.R_lt (rA HO334.out))) (Kd.R_lt (rA HO347.out))) (below_size (bS HB.out)))
    have n8_ := aM (kB BK323.out hb)
    have n9_ := aM (kB BK348.out hb)
    have n10_ := aM (below_step (bS HB.out) hb)
    clear HO331
    clear HO334
    clear HO337
    clear HO344
    clear HO347
    clear HO351
    clear BK323
    clear BK348
    clear HB
    have HO331 := n0_
    have HO334 := n1_
    have HO337 := n2_
    have HO344 := n3_
    have HO347 := n4_
    have HO351 := n5_
    have HO359 := n6_
    have HO362 := n7_
    have BK323 := n8_
    have BK348 := n9_
    have HB := n10_
    clear n0_ n1_ n2_ n3_ n4_ n5_ n6_ n7_ n8_ n9_ n10_
    (try clear hb)
    (try clear hb2)
    (try clear hk)
    (try clear hi)
    (try clear ho0)
    (try clear ho1)
    obtain ⟨Ao38, co38, eo38⟩ := Kd.R_slice HO359.out
    (first | subst eo38 | (injection eo38 with f1_ f2_ f3_; have f4_ := f1_.symm; have f5_ := f3_.symm; clear f1_ f2_ f3_; subst f4_; subst f5_))
    obtain ⟨Ao39, co39, eo39⟩ := Kd.R_slice HO362.out
    (first | subst eo39 | (injection eo39 with f1_ f2_ f3_; have f4_ := f1_.symm; have f5_ := f3_.symm; clear f1_ f2_ f3_; subst f4_; subst f5_))
    refine hK.out _ _ ⟨(blk_cell BK348.out 0).trans rfl, (blk_cell BK348.out 1).trans rfl, (blk_cell BK348.out 2).trans rfl, (blk_cell BK348.out 3).trans rfl, (blk_cell BK348.out 4).trans rfl, (blk_cell BK348.out 5).trans rfl, (blk_cell BK323.out 0).trans rfl, (blk_cell BK323.out 1).trans rfl, (blk_cell BK323.out 2).trans rfl, (blk_cell BK323.out 3).trans rfl, (blk_cell BK323.out 4).trans rfl, (blk_cell BK323.out 5).trans rfl⟩ (fun hHeld => ?_)
    clear hK K
    refine norm_ (a' := ?_) ?_ ?_
    rotate_left
    ·show Act.put _ (some 29) _ = _
     simp only [Act.put, List.setIfInBounds_toArray, List.set_cons_zero, List.set_cons_succ, i64_w, i32_w]
     rfl
    refine one_ (i := 3) (N := some 30) #[true, true, true, true, false] rfl rfl (by kernel_rfl) (by decide) (fun K hK => ?_)
    refine goes_ Try.func12 (by kernel_rfl) rfl #[.agg #[.int .i64 t338, .int .i64 t339, .int .i64 t340, .int .i64 t341, .slice Ao31 t342.length co31, .slice Ao32 t345.length co32], .agg #[.int .i64 t353, .int .i64 t354, .int .i64 t355, .int .i64 t356, .slice Ao38 t357.length co38, .slice Ao39 t360.length co39]] (by rfl) rfl rfl (by (try simp only [List.map_toArray, List.map_cons, List.map_nil]); first | done | rfl | (simp only [List.length_drop, List.length_take]; rfl)) ?_
    with_reducible refine (laws_eqResp.calls k t338 t339 t340 t341 _ _ t342 _ _ t345 t353 t354 t355 t356 _ _ t357 _ _ t360 true _ ?side1 ?side2 ?side3 ?side4 ?side5 ?side6 ?side7 ?side8 A14.out).mono ?_
    (case side1 => exact cR HO344.out)
    (case side2 => exact (Kd.R_reads' HO344.out).2.1)
    (case side3 => exact cR HO347.out)
    (case side4 => exact (Kd.R_reads' HO347.out).2.1)
    (case side5 => exact cR HO359.out)
    (case side6 => exact (Kd.R_reads' HO359.out).2.1)
    (case side7 => exact cR HO362.out)
    (case side8 => exact (Kd.R_reads' HO362.out).2.1)
    rintro e w40 ⟨rfl, hb⟩
    refine ⟨_, rfl, ?_⟩
    have n0_ := aM (rB HO331.out hb)
    have n1_ := aM (rB HO334.out hb)
    have n2_ := aM (Kd.V_below (by (with_reducible repeat (first | apply Kd.V_alloc | apply Kd.V_drewN | apply Kd.V_drew)); exact HO337.out) hb)
    have n3_ := aM (rB HO344.out hb)
    have n4_ := aM (rB HO347.out hb)
    have n5_ := aM (rB HO351.out hb)
    have n6_ := aM (rB HO359.out hb)
    have n7_ := aM (rB HO362.out hb)
    have n8_ := aM (kB BK323.out hb)
    have n9_ := aM (kB BK348.out hb)
    have n10_ := aM (below_step (bS HB.out) hb)
    clear HO331
    clear HO334
    clear HO337
    clear HO344
    clear HO347
    clear HO351
    clear HO359
    clear HO362
    clear BK323
    clear BK348
    clear HB
    have HO331 := n0_
    have HO334 := n1_
    have HO337 := n2_
    have HO344 := n3_
    have HO347 := n4_
    have HO351 := n5_
    have HO359 := n6_
    have HO362 := n7_
    have BK323 := n8_
    have BK348 := n9_
    have HB := n10_
    clear n0_ n1_ n2_ n3_ n4_ n5_ n6_ n7_ n8_ n9_ n10_
    (try clear hb)
    (try clear hb2)
    (try clear hk)
    (try clear hi)
    refine hK.out _ _ ⟨(blk_cell BK348.out 0).trans rfl, (blk_cell BK348.out 1).trans rfl, (blk_cell BK348.out 2).trans rfl, (blk_cell BK348.out 3).trans rfl, (blk_cell BK348.out 4).trans rfl, (blk_cell BK348.out 5).trans rfl, (blk_cell BK323.out 0).trans rfl, (blk_cell BK323.out 1).trans rfl, (blk_cell BK323.out 2).trans rfl, (blk_cell BK323.out 3).trans rfl, (blk_cell BK323.out 4).trans rfl, (blk_cell BK323.out 5).trans rfl⟩ (fun hHeld => ?_)
    clear hK K
    refine norm_ (a' := ?_) ?_ ?_
    rotate_left
    ·show Act.put _ (some 30) _ = _
     simp only [Act.put, List.setIfInBounds_toArray, List.set_cons_zero, List.set_cons_succ, i64_w, i32_w]
     rfl
    refine pure_ (i := 4) (N := some 31) (v := ?_) (a' := ?_) #[true, true, true, true, true] rfl rfl (by kernel_rfl) (fun _ _ _ h => h) (Or.inl ⟨by rfl, ?_⟩) ?_ ?_
    rotate_left
    ·intro w'
     go_simp
     with_reducible rfl
    rotate_left
    ·simp only [Act.put, List.setIfInBounds_toArray, List.set_cons_zero, List.set_cons_succ, i64_w, i32_w]
     rfl
    refine done_ (by kernel_rfl) ?_
    obtain ⟨hcz41_0, hfz41_0, hcz41_1, hfz41_1, hcz41_2, hfz41_2, hcz41_3, hfz41_3, hcz41_4, hfz41_4, hcz41_5, hfz41_5⟩ := bk6 BK348.out
    go_upto_region 14 with (first | ((with_reducible refine gate_callee (f := 13) rfl ?_); refine gL (some 34) rfl rfl Try.func13 (by kernel_rfl) rfl #[.agg #[.int .i64 t338, .int .i64 t339, .int .i64 t340, .int .i64 t341, .slice Ao31 t342.length co31, .slice Ao32 t345.length co32], .int .i64 1] rfl ?_; (with_reducible refine (laws_markResp.calls k t338 t339 t340 t341 (fun k_ => some k_ = (.slice Ao31 t342.length co31 : Value).ownBlock) (.slice Ao31 t342.length co31) t342 (fun k_ => some k_ = (.slice Ao32 t345.length co32 : Value).ownBlock) (.slice Ao32 t345.length co32) t345 1 t364 t365 t366 w _ ?side1 ?side2 ?side3 A16.out).mono ?_); (case side1 => repeat (first | (with_reducible first | exact HB.out | apply below_alloc | apply pw_below_drewN | apply below_drew1 | refine below_set ?_ GE323.out | refine below_set ?_ GE348.out) | exact HB.out)); (case side2 => exact Kd.R_tight rfl HO344.out); (case side3 => exact Kd.R_tight rfl HO347.out); rintro e w42 ⟨rfl, hy0, hy1, hb, hkp⟩; refine ⟨_, rfl, ?_⟩; have _ := aM (blk_kept (kA BK323.out) hkp (fun hs_ => Or.elim hs_ (fun e_ => (fun e_ => (Kd.R_ne HO344.out BK323.out (by decide)) e_) e_) (fun e_ => (fun e_ => (Kd.R_ne HO347.out BK323.out (by decide)) e_) e_))); have _ := aM (rN (ok' := fun k_ => some k_ ≠ (.slice Ao31 t342.length co31 : Value).ownBlock ∧ some k_ ≠ (.slice Ao38 t357.length co38 : Value).ownBlock) (Kd.R_keptB ((Kd.R_apart' HO331.out (Kd.R_typed HO347.out) (by decide))) hkp (fun k_ hk_ hs_ => by first | exact Or.elim hs_ (fun e_ => (hk_.1.1.2) e_) (fun e_ => (hk_.2) e_) | (rcases hs_ with e_ | e_ <;> simp [e_] at hk_)))); have _ := aM (rN (ok' := fun k_ => some k_ ≠ (.slice Ao32 t345.length co32 : Value).ownBlock ∧ some k_ ≠ (.slice Ao39 t360.length co39 : Value).ownBlock) (Kd.R_keptB ((Kd.R_apart' HO334.out (Kd.R_typed HO344.out) (by decide))) hkp (fun k_ hk_ hs_ => by first | exact Or.elim hs_ (fun e_ => (hk_.2) e_) (fun e_ => (hk_.1.1.2) e_) | (rcases hs_ with e_ | e_ <;> simp [e_] at hk_)))); have _ := aM (Kd.V_mono (ok' := fun k_ => some k_ ≠ (.slice Ao23 t329.length co23 : Value).ownBlock ∧ some k_ ≠ (.slice Ao24 t332.length co24 : Value).ownBlock ∧ some k_ ≠ (.slice Ao31 t342.length co31 : Value).ownBlock ∧ some k_ ≠ (.slice Ao32 t345.length co32 : Value).ownBlock ∧ some k_ ≠ (.slice Ao34 t349.length co34 : Value).ownBlock ∧ some k_ ≠ (.slice Ao38 t357.length co38 : Value).ownBlock ∧ some k_ ≠ (.slice Ao39 t360.length co39 : Value).ownBlock ∧ k_ ≠ gb323 ∧ k_ ≠ gb348) (Kd.V_keptB (HO337.out) hkp (fun k_ hk_ hs_ => by first | exact Or.elim hs_ (fun e_ => (hk_.1.1.1.1.1.2) e_) (fun e_ => (hk_.1.1.1.1.2) e_) | (rcases hs_ with e_ | e_ <;> simp [e_] at hk_))) (fun k_ hk_ => by first | exact ⟨hk_.1.1.1.1.1.1.1.1, hk_.1.1.1.1.1.1.1.2.1, hk_.1.1.1.1.1.1.2, hk_.1.1.1.1.1.2, hk_.1.1.1.2, hk_.1.1.2, hk_.1.2, hk_.1.1.1.1.1.1.1.2.2, hk_.1.1.1.1.2⟩ | (simp only [ne_eq] at hk_ ⊢; simp [hk_]))); have _ := aM (Kd.R_reok rfl hy0 (fun k_ e_ => HO344.out.1 k_ e_)); have _ := aM (Kd.R_reok rfl hy1 (fun k_ e_ => HO347.out.1 k_ e_)); have _ := aM (blk_kept (kA BK348.out) hkp (fun hs_ => Or.elim hs_ (fun e_ => (fun e_ => (Kd.R_ne HO344.out BK348.out (by decide)) e_) e_) (fun e_ => (fun e_ => (Kd.R_ne HO347.out BK348.out (by decide)) e_) e_))); have _ := aM (Kd.R_mono (ok' := fun k_ => True) (Kd.R_keptB ((Kd.R_apart' (Kd.R_apart' HO351.out (Kd.R_typed HO344.out) (by decide)) (Kd.R_typed HO347.out) (by decide))) hkp (fun k_ hk_ hs_ => by first | exact Or.elim hs_ (fun e_ => (hk_.1.2) e_) (fun e_ => (hk_.2) e_) | (rcases hs_ with e_ | e_ <;> simp [e_] at hk_))) (fun k_ hk_ => trivial)); have _ := aM (rN (ok' := fun k_ => some k_ ≠ (.slice Ao23 t329.length co23 : Value).ownBlock ∧ some k_ ≠ (.slice Ao31 t342.length co31 : Value).ownBlock) (Kd.R_keptB ((Kd.R_apart' HO359.out (Kd.R_typed HO347.out) (by decide))) hkp (fun k_ hk_ hs_ => by first | exact Or.elim hs_ (fun e_ => (hk_.1.2) e_) (fun e_ => (hk_.2) e_) | (rcases hs_ with e_ | e_ <;> simp [e_] at hk_)))); have _ := aM (rN (ok' := fun k_ => some k_ ≠ (.slice Ao24 t332.length co24 : Value).ownBlock ∧ some k_ ≠ (.slice Ao32 t345.length co32 : Value).ownBlock) (Kd.R_keptB ((Kd.R_apart' HO362.out (Kd.R_typed HO344.out) (by decide))) hkp (fun k_ hk_ hs_ => by first | exact Or.elim hs_ (fun e_ => (hk_.2) e_) (fun e_ => (hk_.1.2) e_) | (rcases hs_ with e_ | e_ <;> simp [e_] at hk_)))); have _ := aM (hb); clear BK323 HO331 HO334 HO337 HO344 HO347 BK348 HO351 HO359 HO362 HB; rename_i BK323 HO331 HO334 HO337 HO344 HO347 BK348 HO351 HO359 HO362 HB; (try clear hb); (try clear hkp); (try clear hy0); (try clear hy1)))
    (try simp only [Act.put, List.setIfInBounds_toArray, List.set_cons_zero, List.set_cons_succ])
    go_cut [42] (fun v42 wc => ∃ (kq : Nat) (x42_16 : Bool), v42 = .bool x42_16 ∧ Aside0 (laws_FnExactPutResp.j0 kq t335 t349 x42_16 a0_0 a0_1 a0_2 a0_3 l0_4 l0_5 = some r) ∧ Aside0 (kq ≤ k) ∧ Aside0 (Kd.V (Kd.int .u8) 5 wc w.heap.size (fun k_ => some k_ ≠ ((.slice Ao34 t349.length co34) : Value).ownBlock ∧ some k_ ≠ ((.slice Ao31 t342.length co31) : Value).ownBlock ∧ some k_ ≠ ((.slice Ao32 t345.length co32) : Value).ownBlock ∧ k_ ≠ gb323 ∧ k_ ≠ gb348) (.slice Ao35 t335.length co35) t335) ∧ Aside0 (Kd.R (Kd.int .u8) 5 wc w.heap.size (fun _ => True) (.slice Ao34 t349.length co34) t349) ∧ Aside0 (Kd.R (Kd.int .i64) 3 wc w.heap.size (fun _ => True) (.slice Ao31 t342.length co31) t365) ∧ Aside0 (Kd.R Kd.bool 4 wc w.heap.size (fun _ => True) (.slice Ao32 t345.length co32) t366) ∧ Aside0 (wc.heap[gb323]? = some (.cells #[.int .i64 a0_0, .int .i64 a0_1, .int .i64 a0_2, .int .i64 a0_3, (.slice A0_4 l0_4.length c0_4), (.slice A0_5 l0_5.length c0_5)] 25 (0, 0))) ∧ Aside0 (wc.heap[gb348]? = some (.cells #[.int .i64 t338, .int .i64 t339, .int .i64 t340, .int .i64 t341, (.slice Ao31 t342.length co31), (.slice Ao32 t345.length co32)] 29 (0, 0))) ∧ Aside0 (Below w.heap.size w wc))
    case first =>
     have H := HC17.out
     clear HC17
     by_cases c43 : t364 < 0
     ·rw [if_pos c43] at H
      have c43b0 : decide (t364 < 0) = true := decide_eq_true c43
      clear c43
      (first | rw [c43b0] | (simp only [i64_w, i32_w]; rw [c43b0]) | skip)
      have H' := aM H
      clear H
      go_wp2
      go_meet
      case rel => exact ⟨_, (true), (by first | rfl | (simp; done) | (simp [*]; done)), H', ⟨by first | omega | exact Nat.le_refl _⟩, ⟨by (with_reducible repeat (first | apply Kd.V_alloc | apply Kd.V_drewN | apply Kd.V_drew)); exact Kd.V_mono HO337.out (fun _ hk => by first | exact ⟨hk.2.2.2.2.1, ⟨hk.2.2.1, ⟨hk.2.2.2.1, ⟨hk.2.2.2.2.2.2.2.1, hk.2.2.2.2.2.2.2.2⟩⟩⟩⟩ | (simp only [ne_eq] at hk ⊢; simp [hk]))⟩, ⟨by (with_reducible repeat (first | apply Kd.R_alloc | apply Kd.R_drewN | apply Kd.R_drew)); exact HO351.out⟩, ⟨by (with_reducible repeat (first | apply Kd.R_alloc | apply Kd.R_drewN | apply Kd.R_drew)); exact Kd.R_mono HO344.out (fun _ hk => trivial)⟩, ⟨by (with_reducible repeat (first | apply Kd.R_alloc | apply Kd.R_drewN | apply Kd.R_drew)); exact Kd.R_mono HO347.out (fun _ hk => trivial)⟩, ⟨kX BK323.out⟩, ⟨kX BK348.out⟩, ⟨bS HB.out⟩⟩
     ·rw [if_neg c43] at H
      have c43b0 : decide (t364 < 0) = false := decide_eq_false c43
      clear c43
      (first | rw [c43b0] | (simp only [i64_w, i32_w]; rw [c43b0]) | skip)
      replace H := Option.bind_eq_some_iff.mp H
      obtain ⟨t367, A440, H⟩ := H
      replace H : (laws_FnExactPutResp.j0 k t335 t349 (!t367) a0_0 a0_1 a0_2 a0_3 l0_4 l0_5) = some r := H
      have A44 := aM A440
      clear A440
      have H' := aM H
      clear H
      go_wp2_with (first | (go_at_call 11; (with_reducible refine (laws_eqByteS.calls k _ _ t349 _ _ t335 t367 _ ?side1 ?side2 ?side3 ?side4 A44.out).mono ?_); (case side1 => exact cR HO351.out); (case side2 => exact (Kd.R_reads' HO351.out).2.1); (case side3 => repeat (first | exact (Kd.V_reads' HO337.out).2.2 | (with_reducible refine Kd.C_alloc ?_ _) | (with_reducible refine Kd.C_drewN ?_ _) | (with_reducible refine Kd.C_drew ?_))); (case side4 => exact (Kd.V_reads' HO337.out).2.1); rintro e w' ⟨rfl, ⟨nd, rfl⟩⟩))
      go_meet
      case rel => exact ⟨_, (!t367), (by first | rfl | (simp; done) | (simp [*]; done)), H', ⟨by first | omega | exact Nat.le_refl _⟩, ⟨by (with_reducible repeat (first | apply Kd.V_alloc | apply Kd.V_drewN | apply Kd.V_drew)); exact Kd.V_mono HO337.out (fun _ hk => by first | exact ⟨hk.2.2.2.2.1, ⟨hk.2.2.1, ⟨hk.2.2.2.1, ⟨hk.2.2.2.2.2.2.2.1, hk.2.2.2.2.2.2.2.2⟩⟩⟩⟩ | (simp only [ne_eq] at hk ⊢; simp [hk]))⟩, ⟨by (with_reducible repeat (first | apply Kd.R_alloc | apply Kd.R_drewN | apply Kd.R_drew)); exact HO351.out⟩, ⟨by (with_reducible repeat (first | apply Kd.R_alloc | apply Kd.R_drewN | apply Kd.R_drew)); exact Kd.R_mono HO344.out (fun _ hk => trivial)⟩, ⟨by (with_reducible repeat (first | apply Kd.R_alloc | apply Kd.R_drewN | apply Kd.R_drew)); exact Kd.R_mono HO347.out (fun _ hk => trivial)⟩, ⟨kX BK323.out⟩, ⟨kX BK348.out⟩, ⟨bS HB.out⟩⟩
    case rest =>
     clear HC17
     try clear c3
     try clear c3b0
     try clear c12
     try clear c15
     try clear hcz19_0
     try clear hcz19_1
     try clear hcz19_2
     try clear hcz19_3
     try clear hcz19_4
     try clear hcz19_5
     try clear hcz21_0
     try clear hcz21_1
     try clear hcz21_2
     try clear hcz21_3
     try clear hcz21_4
     try clear hcz21_5
     try clear hcz26_0
     try clear hcz26_1
     try clear hcz26_2
     try clear hcz26_3
     try clear hcz26_4
     try clear hcz26_5
     try clear hcz30_0
     try clear hcz30_1
     try clear hcz30_2
     try clear hcz30_3
     try clear hcz30_4
     try clear hcz30_5
     try clear hcz41_0
     try clear hcz41_1
     try clear hcz41_2
     try clear hcz41_3
     try clear hcz41_4
     try clear hcz41_5
     try clear hcz5_0
     try clear hcz5_1
     try clear hcz5_2
     try clear hcz5_3
     try clear hcz5_4
     try clear hcz5_5
     try clear hfz19_0
     try clear hfz19_1
     try clear hfz19_2
     try clear hfz19_3
     try clear hfz19_4
     try clear hfz19_5
     try clear hfz21_0
     try clear hfz21_1
     try clear hfz21_2
     try clear hfz21_3
     try clear hfz21_4
     try clear hfz21_5
     try clear hfz26_0
     try clear hfz26_1
     try clear hfz26_2
     try clear hfz26_3
     try clear hfz26_4
     try clear hfz26_5
     try clear hfz30_0
     try clear hfz30_1
     try clear hfz30_2
     try clear hfz30_3
     try clear hfz30_4
     try clear hfz30_5
     try clear hfz41_0
     try clear hfz41_1
     try clear hfz41_2
     try clear hfz41_3
     try clear hfz41_4
     try clear hfz41_5
     try clear hfz5_0
     try clear hfz5_1
     try clear hfz5_2
     try clear hfz5_3
     try clear hfz5_4
     try clear hfz5_5
     obtain ⟨kq, x42_16, rfl, HA, HJ16, HO_4, HO_6, HO_349004, HO_349005, BK323, BK348, HB⟩ := hcut
     have hl349004_16 := (Kd.R_reads' HO_349004.out).1
     rw [hl349004_16] at HO_349004
     (try simp only [hl349004_16])
     (try simp only [hl349004_16] at BK323)
     (try simp only [hl349004_16] at BK348)
     (try simp only [hl349004_16] at HO_4)
     (try simp only [hl349004_16] at HO_6)
     (try simp only [hl349004_16] at HO_349005)
     have hl349005_16 := (Kd.R_reads' HO_349005.out).1
     rw [hl349005_16] at HO_349005
     (try simp only [hl349005_16])
     (try simp only [hl349005_16] at BK323)
     (try simp only [hl349005_16] at BK348)
     (try simp only [hl349005_16] at HO_4)
     (try simp only [hl349005_16] at HO_6)
     (try simp only [hl349005_16] at HO_349004)
     cases kq with
     | zero => exact absurd HA.out (by simp [laws_FnExactPutResp.j0])
     | succ kj16 =>
      have H := HA.out
      clear HA
      simp only [laws_FnExactPutResp.j0] at H
      by_cases c45 : x42_16 = true
      ·subst c45
       have H1 : (some false) = some r := by rw [if_pos rfl] at H; exact H
       clear H
       have H := H1
       clear H1
       obtain rfl := Option.some.inj H
       go_wp2
       go_ret
       exact ⟨by first | rfl | (simp [errW_none, errW_some] <;> rfl) | (simp [*, errW_none, errW_some] <;> rfl), bS HB.out⟩
      ·replace c45 := Bool.eq_false_iff.mpr c45
       subst c45
       have H1 : ((laws_markByteS.f kj16 t349 1).bind fun bt368 => ((laws_heldByteS.f kj16 bt368.2 1).bind fun t370 => (if t370 < 0 then (some false) else (if t370 = bt368.1 then ((laws_toResp.f kj16 a0_0 a0_1 a0_2 a0_3 l0_4 l0_5).bind fun bt371 => ((impl_PutResp.f kj16 bt371.1 bt371.2.1 bt371.2.2.1 bt371.2.2.2.1 bt371.2.2.2.2.1 bt371.2.2.2.2.2).bind fun t381 => ((laws_eqByteS.f kj16 t381 t335).bind fun t384 => (if t384 = true then ((laws_heldByteS.f kj16 bt368.2 1).bind fun t385 => (if t385 < 0 then (some false) else (if t385 = bt368.1 then (some true) else (some false)))) else (some false))))) else (some false))))) = some r := by rw [if_neg (show ¬ (false = true) by decide)] at H; exact H
       clear H
       have H := H1
       clear H1
       replace H := Option.bind_eq_some_iff.mp H
       obtain ⟨⟨t368, t369⟩, A460, H⟩ := H
       replace H : ((laws_heldByteS.f kj16 t369 1).bind fun t370 => (if t370 < 0 then (some false) else (if t370 = t368 then ((laws_toResp.f kj16 a0_0 a0_1 a0_2 a0_3 l0_4 l0_5).bind fun bt371 => ((impl_PutResp.f kj16 bt371.1 bt371.2.1 bt371.2.2.1 bt371.2.2.2.1 bt371.2.2.2.2.1 bt371.2.2.2.2.2).bind fun t381 => ((laws_eqByteS.f kj16 t381 t335).bind fun t384 => (if t384 = true then ((laws_heldByteS.f kj16 t369 1).bind fun t385 => (if t385 < 0 then (some false) else (if t385 = t368 then (some true) else (some false)))) else (some false))))) else (some false)))) = some r := H
       have A46 := aM A460
       clear A460
       replace H := Option.bind_eq_some_iff.mp H
       obtain ⟨t370, A470, H⟩ := H
       replace H : (if t370 < 0 then (some false) else (if t370 = t368 then ((laws_toResp.f kj16 a0_0 a0_1 a0_2 a0_3 l0_4 l0_5).bind fun bt371 => ((impl_PutResp.f kj16 bt371.1 bt371.2.1 bt371.2.2.1 bt371.2.2.2.1 bt371.2.2.2.2.1 bt371.2.2.2.2.2).bind fun t381 => ((laws_eqByteS.f kj16 t381 t335).bind fun t384 => (if t384 = true then ((laws_heldByteS.f kj16 t369 1).bind fun t385 => (if t385 < 0 then (some false) else (if t385 = t368 then (some true) else (some false)))) else (some false))))) else (some false))) = some r := H
       have A47 := aM A470
       clear A470
       by_cases c48 : t370 < 0
       ·rw [if_pos c48] at H
        have c48b0 : decide (t370 < 0) = true := decide_eq_true c48
        clear c48
        obtain rfl := Option.some.inj H
        go_wp2_with (first | ((with_reducible refine gate_callee (f := 14) rfl ?_); refine gL (some 45) rfl rfl Try.func14 (by kernel_rfl) rfl #[.slice Ao34 t349.length co34, .int .i64 1] rfl ?_; (with_reducible refine (laws_markByteS.calls kj16 (fun k_ => some k_ = (.slice Ao34 t349.length co34 : Value).ownBlock) (.slice Ao34 t349.length co34) t349 1 t368 t369 w _ ?side1 ?side2 A46.out).mono ?_); (case side1 => repeat (first | (with_reducible first | exact HB.out | apply below_alloc | apply pw_below_drewN | apply below_drew1 | refine below_set ?_ GE323.out | refine below_set ?_ GE348.out) | exact HB.out)); (case side2 => exact Kd.R_tight rfl HO_6.out); rintro e w49 ⟨rfl, hy0, hb, hkp⟩; refine ⟨_, rfl, ?_⟩; have _ := aM (Kd.V_mono (ok' := fun k_ => some k_ ≠ (.slice Ao34 t349.length co34 : Value).ownBlock ∧ some k_ ≠ (.slice Ao31 t365.length co31 : Value).ownBlock ∧ some k_ ≠ (.slice Ao32 t366.length co32 : Value).ownBlock ∧ k_ ≠ gb323 ∧ k_ ≠ gb348) (Kd.V_keptB (HO_4.out) hkp (fun k_ hk_ hs_ => (hk_.1) hs_)) (fun k_ hk_ => by first | exact ⟨hk_.1.1, hk_.1.2.1, hk_.1.2.2.1, hk_.1.2.2.2.1, hk_.1.2.2.2.2⟩ | (simp only [ne_eq] at hk_ ⊢; simp [hk_]))); have _ := aM (Kd.R_reok rfl hy0 (fun k_ e_ => HO_6.out.1 k_ e_)); have _ := aM (Kd.R_mono (ok' := fun k_ => True) (Kd.R_keptB ((Kd.R_apart' HO_349004.out (Kd.R_typed HO_6.out) (by decide))) hkp (fun k_ hk_ hs_ => (hk_.2) hs_)) (fun k_ hk_ => trivial)); have _ := aM (Kd.R_mono (ok' := fun k_ => True) (Kd.R_keptB ((Kd.R_apart' HO_349005.out (Kd.R_typed HO_6.out) (by decide))) hkp (fun k_ hk_ hs_ => (hk_.2) hs_)) (fun k_ hk_ => trivial)); have _ := aM (blk_kept (kA BK323.out) hkp (fun hs_ => (fun e_ => (Kd.R_ne HO_6.out BK323.out (by decide)) e_) hs_)); have _ := aM (blk_kept (kA BK348.out) hkp (fun hs_ => (fun e_ => (Kd.R_ne HO_6.out BK348.out (by decide)) e_) hs_)); have _ := aM (hb); clear HO_4 HO_6 HO_349004 HO_349005 BK323 BK348 HB; rename_i HO_4 HO_6 HO_349004 HO_349005 BK323 BK348 HB; (try clear hb); (try clear hkp); (try clear hy0)) | ((with_reducible refine gate_callee (f := 15) rfl ?_); refine goesL_ (some 48) rfl rfl Try.func15 (by kernel_rfl) rfl #[.slice Ao34 t369.length co34, .int .i64 1] rfl (by (try simp only [List.map_toArray, List.map_cons, List.map_nil]); first | done | (rw [show t369.length = t349.length from (Kd.R_reads' HO_6.out).1.symm] <;> rfl) | rfl | (simp only [List.length_drop, List.length_take]; rfl)) ?_; (with_reducible refine (laws_heldByteS.calls kj16 _ _ t369 1 t370 _ ?side1 ?side2 A47.out).mono ?_); (case side1 => exact cR HO_6.out); (case side2 => rw [show t369.length = t349.length from (Kd.R_reads' HO_6.out).1.symm]; exact (Kd.R_reads' HO_6.out).2.1); rintro e w' ⟨rfl, ⟨nd, rfl⟩⟩; refine ⟨_, rfl, ?_⟩))
        go_ret
        exact ⟨by first | rfl | (simp [errW_none, errW_some] <;> rfl) | (simp [*, errW_none, errW_some] <;> rfl), bS HB.out⟩
       ·rw [if_neg c48] at H
        have c48b0 : decide (t370 < 0) = false := decide_eq_false c48
        clear c48
        by_cases c50 : t370 = t368
        ·rw [if_pos c50] at H
         have c50b0 : (t370 == t368) = true := beq_iff_eq.mpr c50
         have c50b1 : (t370 != t368) = false := bne_eq_false_iff_eq.mpr c50
         clear c50
         replace H := Option.bind_eq_some_iff.mp H
         obtain ⟨⟨t371, t372, t373, t374, t375, t378⟩, A510, H⟩ := H
         replace H : ((impl_PutResp.f kj16 t371 t372 t373 t374 t375 t378).bind fun t381 => ((laws_eqByteS.f kj16 t381 t335).bind fun t384 => (if t384 = true then ((laws_heldByteS.f kj16 t369 1).bind fun t385 => (if t385 < 0 then (some false) else (if t385 = t368 then (some true) else (some false)))) else (some false)))) = some r := H
         have A51 := aM A510
         clear A510
         replace H := Option.bind_eq_some_iff.mp H
         obtain ⟨t381, A520, H⟩ := H
         replace H : ((laws_eqByteS.f kj16 t381 t335).bind fun t384 => (if t384 = true then ((laws_heldByteS.f kj16 t369 1).bind fun t385 => (if t385 < 0 then (some false) else (if t385 = t368 then (some true) else (some false)))) else (some false))) = some r := H
         have A52 := aM A520
         clear A520
         replace H := Option.bind_eq_some_iff.mp H
         obtain ⟨t384, A530, H⟩ := H
         replace H : (if t384 = true then ((laws_heldByteS.f kj16 t369 1).bind fun t385 => (if t385 < 0 then (some false) else (if t385 = t368 then (some true) else (some false)))) else (some false)) = some r := H
         have A53 := aM A530
         clear A530
         by_cases c54 : t384 = true
         ·subst c54
          have H1 : ((laws_heldByteS.f kj16 t369 1).bind fun t385 => (if t385 < 0 then (some false) else (if t385 = t368 then (some true) else (some false)))) = some r := by rw [if_pos rfl] at H; exact H
          clear H
          have H := H1
          clear H1
          replace H := Option.bind_eq_some_iff.mp H
          obtain ⟨t385, A550, H⟩ := H
          replace H : (if t385 < 0 then (some false) else (if t385 = t368 then (some true) else (some false))) = some r := H
          have A55 := aM A550
          clear A550
          by_cases c56 : t385 < 0
          ·rw [if_pos c56] at H
           have c56b0 : decide (t385 < 0) = true := decide_eq_true c56
           clear c56
           obtain rfl := Option.some.inj H
           go_wp2_with (first | ((with_reducible refine gate_callee (f := 14) rfl ?_); refine gL (some 45) rfl rfl Try.func14 (by kernel_rfl) rfl #[.slice Ao34 t349.length co34, .int .i64 1] rfl ?_; (with_reducible refine (laws_markByteS.calls kj16 (fun k_ => some k_ = (.slice Ao34 t349.length co34 : Value).ownBlock) (.slice Ao34 t349.length co34) t349 1 t368 t369 w _ ?side1 ?side2 A46.out).mono ?_); (case side1 => repeat (first | (with_reducible first | exact HB.out | apply below_alloc | apply pw_below_drewN | apply below_drew1 | refine below_set ?_ GE323.out | refine below_set ?_ GE348.out) | exact HB.out)); (case side2 => exact Kd.R_tight rfl HO_6.out); rintro e w57 ⟨rfl, hy0, hb, hkp⟩; refine ⟨_, rfl, ?_⟩; have _ := aM (Kd.V_mono (ok' := fun k_ => some k_ ≠ (.slice Ao34 t349.length co34 : Value).ownBlock ∧ some k_ ≠ (.slice Ao31 t365.length co31 : Value).ownBlock ∧ some k_ ≠ (.slice Ao32 t366.length co32 : Value).ownBlock ∧ k_ ≠ gb323 ∧ k_ ≠ gb348) (Kd.V_keptB (HO_4.out) hkp (fun k_ hk_ hs_ => (hk_.1) hs_)) (fun k_ hk_ => by first | exact ⟨hk_.1.1, hk_.1.2.1, hk_.1.2.2.1, hk_.1.2.2.2.1, hk_.1.2.2.2.2⟩ | (simp only [ne_eq] at hk_ ⊢; simp [hk_]))); have _ := aM (Kd.R_reok rfl hy0 (fun k_ e_ => HO_6.out.1 k_ e_)); have _ := aM (Kd.R_mono (ok' := fun k_ => True) (Kd.R_keptB ((Kd.R_apart' HO_349004.out (Kd.R_typed HO_6.out) (by decide))) hkp (fun k_ hk_ hs_ => (hk_.2) hs_)) (fun k_ hk_ => trivial)); have _ := aM (Kd.R_mono (ok' := fun k_ => True) (Kd.R_keptB ((Kd.R_apart' HO_349005.out (Kd.R_typed HO_6.out) (by decide))) hkp (fun k_ hk_ hs_ => (hk_.2) hs_)) (fun k_ hk_ => trivial)); have _ := aM (blk_kept (kA BK323.out) hkp (fun hs_ => (fun e_ => (Kd.R_ne HO_6.out BK323.out (by decide)) e_) hs_)); have _ := aM (blk_kept (kA BK348.out) hkp (fun hs_ => (fun e_ => (Kd.R_ne HO_6.out BK348.out (by decide)) e_) hs_)); have _ := aM (hb); clear HO_4 HO_6 HO_349004 HO_349005 BK323 BK348 HB; rename_i HO_4 HO_6 HO_349004 HO_349005 BK323 BK348 HB; (try clear hb); (try clear hkp); (try clear hy0)) | ((with_reducible refine gate_callee (f := 15) rfl ?_); refine goesL_ (some 48) rfl rfl Try.func15 (by kernel_rfl) rfl #[.slice Ao34 t369.length co34, .int .i64 1] rfl (by (try simp only [List.map_toArray, List.map_cons, List.map_nil]); first | done | (rw [show t369.length = t349.length from (Kd.R_reads' HO_6.out).1.symm] <;> rfl) | rfl | (simp only [List.length_drop, List.length_take]; rfl)) ?_; (with_reducible refine (laws_heldByteS.calls kj16 _ _ t369 1 t370 _ ?side1 ?side2 A47.out).mono ?_); (case side1 => exact cR HO_6.out); (case side2 => rw [show t369.length = t349.length from (Kd.R_reads' HO_6.out).1.symm]; exact (Kd.R_reads' HO_6.out).2.1); rintro e w' ⟨rfl, ⟨nd, rfl⟩⟩; refine ⟨_, rfl, ?_⟩; have hnb58 := NB323_348.out; have hnc58 := NB348_323.out; obtain ⟨hcz59_0, hfz59_0, hcz59_1, hfz59_1, hcz59_2, hfz59_2, hcz59_3, hfz59_3, hcz59_4, hfz59_4, hcz59_5, hfz59_5⟩ := bk6 BK323.out) | ((with_reducible refine gate_callee (f := 9) rfl ?_); refine gL (some 55) rfl rfl Try.func9 (by kernel_rfl) rfl #[.agg #[.int .i64 a0_0, .int .i64 a0_1, .int .i64 a0_2, .int .i64 a0_3, .slice A0_4 l0_4.length c0_4, .slice A0_5 l0_5.length c0_5]] rfl ?_; (with_reducible refine (laws_toResp.calls kj16 a0_0 a0_1 a0_2 a0_3 _ _ l0_4 _ _ l0_5 t371 t372 t373 t374 t375 t378 _ ?side1 ?side2 ?side3 ?side4 A51.out).mono ?_); (case side1 => repeat (first | exact (Kd.C_below HR0_4.out (bS HB.out)) | (with_reducible refine Kd.C_alloc ?_ _) | (with_reducible refine Kd.C_drewN ?_ _) | (with_reducible refine Kd.C_drew ?_))); (case side2 => exact HC0_4.out); (case side3 => repeat (first | exact (Kd.C_below HR0_5.out (bS HB.out)) | (with_reducible refine Kd.C_alloc ?_ _) | (with_reducible refine Kd.C_drewN ?_ _) | (with_reducible refine Kd.C_drew ?_))); (case side4 => exact HC0_5.out); rintro e w60 ⟨v376, v379, rfl, ho0, ho1, hb⟩; refine ⟨_, rfl, ?_⟩; have _ := aM (Kd.V_mono (Kd.V_told (Kd.V_told (Kd.V_old (by (with_reducible repeat (first | apply Kd.V_alloc | apply Kd.V_drewN | apply Kd.V_drew)); exact HO_4.out) hb) (Kd.R_base ho0)) (Kd.R_base ho1)) (fun _ h_ => by first | exact h_.1 | (have h2_ := h_.1; simp only [ne_eq] at h2_ ⊢; simp [h2_]))); have _ := aM (rB HO_6.out hb); have _ := aM (Kd.R_elder' (rA HO_349004.out) (Kd.R_base ho0) hb); have _ := aM (Kd.R_elder' (rA HO_349005.out) (Kd.R_base ho1) hb); have _ := aM (Kd.R_lower (Kd.R_new' ho0 (Kd.R_lt (rA HO_349004.out))) (below_size (bS HB.out))); have _ := aM (Kd.R_lower (Kd.R_new' ho1 (Kd.R_lt (rA HO_349005.out))) (below_size (bS HB.out))); have _ := aM (kB BK323.out hb); have _ := aM (kB BK348.out hb); have _ := aM (below_step (bS HB.out) hb); clear HO_4 HO_6 HO_349004 HO_349005 BK323 BK348 HB; rename_i HO_4 HO_6 HO_349004 HO_349005 HO377 HO380 BK323 BK348 HB; (try clear hb); (try clear ho0); (try clear ho1); obtain ⟨Ao61, co61, eo61⟩ := Kd.R_slice HO377.out; subst eo61; obtain ⟨Ao62, co62, eo62⟩ := Kd.R_slice HO380.out; subst eo62) | ((with_reducible refine gate_callee (f := 10) rfl ?_); refine gL (some 56) rfl rfl Try.func10 (by kernel_rfl) rfl #[.agg #[.int .i64 t371, .int .i64 t372, .int .i64 t373, .int .i64 t374, .slice Ao61 t375.length co61, .slice Ao62 t378.length co62]] rfl ?_; (with_reducible refine (impl_PutResp.calls kj16 t371 t372 t373 t374 _ _ t375 _ _ t378 t381 _ ?side1 ?side2 ?side3 ?side4 A52.out).mono ?_); (case side1 => exact cR HO377.out); (case side2 => exact (Kd.R_reads' HO377.out).2.1); (case side3 => exact cR HO380.out); (case side4 => exact (Kd.R_reads' HO380.out).2.1); rintro e w63 ⟨v382, rfl, ho0, hb⟩; refine ⟨_, rfl, ?_⟩; have _ := aM (Kd.V_elder' (by (with_reducible repeat (first | apply Kd.V_alloc | apply Kd.V_drewN | apply Kd.V_drew)); exact HO_4.out) (Kd.R_base ho0) hb); have _ := aM (Kd.R_elder' (rA HO_6.out) (Kd.R_base ho0) hb); have _ := aM (rB HO_349004.out hb); have _ := aM (rB HO_349005.out hb); have _ := aM (rB HO377.out hb); have _ := aM (rB HO380.out hb); have _ := aM (Kd.R_lower (Kd.R_new' ho0 (Kd.R_lt (rA HO_6.out))) (below_size (bS HB.out))); have _ := aM (kB BK323.out hb); have _ := aM (kB BK348.out hb); have _ := aM (below_step (bS HB.out) hb); clear HO_4 HO_6 HO_349004 HO_349005 HO377 HO380 BK323 BK348 HB; rename_i HO_4 HO_6 HO_349004 HO_349005 HO377 HO380 HO383 BK323 BK348 HB; (try clear hb); (try clear ho0); obtain ⟨Ao64, co64, eo64⟩ := Kd.R_slice HO383.out; subst eo64) | ((with_reducible refine gate_callee (f := 11) rfl ?_); refine gL (some 59) rfl rfl Try.func11 (by kernel_rfl) rfl #[.slice Ao64 t381.length co64, .slice Ao35 t335.length co35] rfl ?_; (with_reducible refine (laws_eqByteS.calls kj16 _ _ t381 _ _ t335 true _ ?side1 ?side2 ?side3 ?side4 A53.out).mono ?_); (case side1 => exact cR HO383.out); (case side2 => exact (Kd.R_reads' HO383.out).2.1); (case side3 => repeat (first | exact (Kd.V_reads' HO_4.out).2.2 | (with_reducible refine Kd.C_alloc ?_ _) | (with_reducible refine Kd.C_drewN ?_ _) | (with_reducible refine Kd.C_drew ?_))); (case side4 => exact (Kd.V_reads' HO_4.out).2.1); rintro e w' ⟨rfl, ⟨nd, rfl⟩⟩; refine ⟨_, rfl, ?_⟩) | ((with_reducible refine gate_callee (f := 15) rfl ?_); refine goesL_ (some 63) rfl rfl Try.func15 (by kernel_rfl) rfl #[.slice Ao34 t369.length co34, .int .i64 1] rfl (by (try simp only [List.map_toArray, List.map_cons, List.map_nil]); first | done | (rw [show t369.length = t349.length from (Kd.R_reads' HO_6.out).1.symm] <;> rfl) | rfl | (simp only [List.length_drop, List.length_take]; rfl)) ?_; (with_reducible refine (laws_heldByteS.calls kj16 _ _ t369 1 t385 _ ?side1 ?side2 A55.out).mono ?_); (case side1 => exact cR HO_6.out); (case side2 => rw [show t369.length = t349.length from (Kd.R_reads' HO_6.out).1.symm]; exact (Kd.R_reads' HO_6.out).2.1); rintro e w' ⟨rfl, ⟨nd, rfl⟩⟩; refine ⟨_, rfl, ?_⟩))
           go_ret
           exact ⟨by first | rfl | (simp [errW_none, errW_some] <;> rfl) | (simp [*, errW_none, errW_some] <;> rfl), bS HB.out⟩
          ·rw [if_neg c56] at H
           have c56b0 : decide (t385 < 0) = false := decide_eq_false c56
           clear c56
           by_cases c65 : t385 = t368
           ·rw [if_pos c65] at H
            have c65b0 : (t385 == t368) = true := beq_iff_eq.mpr c65
            have c65b1 : (t385 != t368) = false := bne_eq_false_iff_eq.mpr c65
            clear c65
            obtain rfl := Option.some.inj H
            go_wp2_with (first | ((with_reducible refine gate_callee (f := 14) rfl ?_); refine gL (some 45) rfl rfl Try.func14 (by kernel_rfl) rfl #[.slice Ao34 t349.length co34, .int .i64 1] rfl ?_; (with_reducible refine (laws_markByteS.calls kj16 (fun k_ => some k_ = (.slice Ao34 t349.length co34 : Value).ownBlock) (.slice Ao34 t349.length co34) t349 1 t368 t369 w _ ?side1 ?side2 A46.out).mono ?_); (case side1 => repeat (first | (with_reducible first | exact HB.out | apply below_alloc | apply pw_below_drewN | apply below_drew1 | refine below_set ?_ GE323.out | refine below_set ?_ GE348.out) | exact HB.out)); (case side2 => exact Kd.R_tight rfl HO_6.out); rintro e w66 ⟨rfl, hy0, hb, hkp⟩; refine ⟨_, rfl, ?_⟩; have _ := aM (Kd.V_mono (ok' := fun k_ => some k_ ≠ (.slice Ao34 t349.length co34 : Value).ownBlock ∧ some k_ ≠ (.slice Ao31 t365.length co31 : Value).ownBlock ∧ some k_ ≠ (.slice Ao32 t366.length co32 : Value).ownBlock ∧ k_ ≠ gb323 ∧ k_ ≠ gb348) (Kd.V_keptB (HO_4.out) hkp (fun k_ hk_ hs_ => (hk_.1) hs_)) (fun k_ hk_ => by first | exact ⟨hk_.1.1, hk_.1.2.1, hk_.1.2.2.1, hk_.1.2.2.2.1, hk_.1.2.2.2.2⟩ | (simp only [ne_eq] at hk_ ⊢; simp [hk_]))); have _ := aM (Kd.R_reok rfl hy0 (fun k_ e_ => HO_6.out.1 k_ e_)); have _ := aM (Kd.R_mono (ok' := fun k_ => True) (Kd.R_keptB ((Kd.R_apart' HO_349004.out (Kd.R_typed HO_6.out) (by decide))) hkp (fun k_ hk_ hs_ => (hk_.2) hs_)) (fun k_ hk_ => trivial)); have _ := aM (Kd.R_mono (ok' := fun k_ => True) (Kd.R_keptB ((Kd.R_apart' HO_349005.out (Kd.R_typed HO_6.out) (by decide))) hkp (fun k_ hk_ hs_ => (hk_.2) hs_)) (fun k_ hk_ => trivial)); have _ := aM (blk_kept (kA BK323.out) hkp (fun hs_ => (fun e_ => (Kd.R_ne HO_6.out BK323.out (by decide)) e_) hs_)); have _ := aM (blk_kept (kA BK348.out) hkp (fun hs_ => (fun e_ => (Kd.R_ne HO_6.out BK348.out (by decide)) e_) hs_)); have _ := aM (hb); clear HO_4 HO_6 HO_349004 HO_349005 BK323 BK348 HB; rename_i HO_4 HO_6 HO_349004 HO_349005 BK323 BK348 HB; (try clear hb); (try clear hkp); (try clear hy0)) | ((with_reducible refine gate_callee (f := 15) rfl ?_); refine goesL_ (some 48) rfl rfl Try.func15 (by kernel_rfl) rfl #[.slice Ao34 t369.length co34, .int .i64 1] rfl (by (try simp only [List.map_toArray, List.map_cons, List.map_nil]); first | done | (rw [show t369.length = t349.length from (Kd.R_reads' HO_6.out).1.symm] <;> rfl) | rfl | (simp only [List.length_drop, List.length_take]; rfl)) ?_; (with_reducible refine (laws_heldByteS.calls kj16 _ _ t369 1 t370 _ ?side1 ?side2 A47.out).mono ?_); (case side1 => exact cR HO_6.out); (case side2 => rw [show t369.length = t349.length from (Kd.R_reads' HO_6.out).1.symm]; exact (Kd.R_reads' HO_6.out).2.1); rintro e w' ⟨rfl, ⟨nd, rfl⟩⟩; refine ⟨_, rfl, ?_⟩; have hnb67 := NB323_348.out; have hnc67 := NB348_323.out; obtain ⟨hcz68_0, hfz68_0, hcz68_1, hfz68_1, hcz68_2, hfz68_2, hcz68_3, hfz68_3, hcz68_4, hfz68_4, hcz68_5, hfz68_5⟩ := bk6 BK323.out) | ((with_reducible refine gate_callee (f := 9) rfl ?_); refine gL (some 55) rfl rfl Try.func9 (by kernel_rfl) rfl #[.agg #[.int .i64 a0_0, .int .i64 a0_1, .int .i64 a0_2, .int .i64 a0_3, .slice A0_4 l0_4.length c0_4, .slice A0_5 l0_5.length c0_5]] rfl ?_; (with_reducible refine (laws_toResp.calls kj16 a0_0 a0_1 a0_2 a0_3 _ _ l0_4 _ _ l0_5 t371 t372 t373 t374 t375 t378 _ ?side1 ?side2 ?side3 ?side4 A51.out).mono ?_); (case side1 => repeat (first | exact (Kd.C_below HR0_4.out (bS HB.out)) | (with_reducible refine Kd.C_alloc ?_ _) | (with_reducible refine Kd.C_drewN ?_ _) | (with_reducible refine Kd.C_drew ?_))); (case side2 => exact HC0_4.out); (case side3 => repeat (first | exact (Kd.C_below HR0_5.out (bS HB.out)) | (with_reducible refine Kd.C_alloc ?_ _) | (with_reducible refine Kd.C_drewN ?_ _) | (with_reducible refine Kd.C_drew ?_))); (case side4 => exact HC0_5.out); rintro e w69 ⟨v376, v379, rfl, ho0, ho1, hb⟩; refine ⟨_, rfl, ?_⟩; have _ := aM (Kd.V_mono (Kd.V_told (Kd.V_told (Kd.V_old (by (with_reducible repeat (first | apply Kd.V_alloc | apply Kd.V_drewN | apply Kd.V_drew)); exact HO_4.out) hb) (Kd.R_base ho0)) (Kd.R_base ho1)) (fun _ h_ => by first | exact h_.1 | (have h2_ := h_.1; simp only [ne_eq] at h2_ ⊢; simp [h2_]))); have _ := aM (rB HO_6.out hb); have _ := aM (Kd.R_elder' (rA HO_349004.out) (Kd.R_base ho0) hb); have _ := aM (Kd.R_elder' (rA HO_349005.out) (Kd.R_base ho1) hb); have _ := aM (Kd.R_lower (Kd.R_new' ho0 (Kd.R_lt (rA HO_349004.out))) (below_size (bS HB.out))); have _ := aM (Kd.R_lower (Kd.R_new' ho1 (Kd.R_lt (rA HO_349005.out))) (below_size (bS HB.out))); have _ := aM (kB BK323.out hb); have _ := aM (kB BK348.out hb); have _ := aM (below_step (bS HB.out) hb); clear HO_4 HO_6 HO_349004 HO_349005 BK323 BK348 HB; rename_i HO_4 HO_6 HO_349004 HO_349005 HO377 HO380 BK323 BK348 HB; (try clear hb); (try clear ho0); (try clear ho1); obtain ⟨Ao70, co70, eo70⟩ := Kd.R_slice HO377.out; subst eo70; obtain ⟨Ao71, co71, eo71⟩ := Kd.R_slice HO380.out; subst eo71) | ((with_reducible refine gate_callee (f := 10) rfl ?_); refine gL (some 56) rfl rfl Try.func10 (by kernel_rfl) rfl #[.agg #[.int .i64 t371, .int .i64 t372, .int .i64 t373, .int .i64 t374, .slice Ao70 t375.length co70, .slice Ao71 t378.length co71]] rfl ?_; (with_reducible refine (impl_PutResp.calls kj16 t371 t372 t373 t374 _ _ t375 _ _ t378 t381 _ ?side1 ?side2 ?side3 ?side4 A52.out).mono ?_); (case side1 => exact cR HO377.out); (case side2 => exact (Kd.R_reads' HO377.out).2.1); (case side3 => exact cR HO380.out); (case side4 => exact (Kd.R_reads' HO380.out).2.1); rintro e w72 ⟨v382, rfl, ho0, hb⟩; refine ⟨_, rfl, ?_⟩; have _ := aM (Kd.V_elder' (by (with_reducible repeat (first | apply Kd.V_alloc | apply Kd.V_drewN | apply Kd.V_drew)); exact HO_4.out) (Kd.R_base ho0) hb); have _ := aM (Kd.R_elder' (rA HO_6.out) (Kd.R_base ho0) hb); have _ := aM (rB HO_349004.out hb); have _ := aM (rB HO_349005.out hb); have _ := aM (rB HO377.out hb); have _ := aM (rB HO380.out hb); have _ := aM (Kd.R_lower (Kd.R_new' ho0 (Kd.R_lt (rA HO_6.out))) (below_size (bS HB.out))); have _ := aM (kB BK323.out hb); have _ := aM (kB BK348.out hb); have _ := aM (below_step (bS HB.out) hb); clear HO_4 HO_6 HO_349004 HO_349005 HO377 HO380 BK323 BK348 HB; rename_i HO_4 HO_6 HO_349004 HO_349005 HO377 HO380 HO383 BK323 BK348 HB; (try clear hb); (try clear ho0); obtain ⟨Ao73, co73, eo73⟩ := Kd.R_slice HO383.out; subst eo73) | ((with_reducible refine gate_callee (f := 11) rfl ?_); refine gL (some 59) rfl rfl Try.func11 (by kernel_rfl) rfl #[.slice Ao73 t381.length co73, .slice Ao35 t335.length co35] rfl ?_; (with_reducible refine (laws_eqByteS.calls kj16 _ _ t381 _ _ t335 true _ ?side1 ?side2 ?side3 ?side4 A53.out).mono ?_); (case side1 => exact cR HO383.out); (case side2 => exact (Kd.R_reads' HO383.out).2.1); (case side3 => repeat (first | exact (Kd.V_reads' HO_4.out).2.2 | (with_reducible refine Kd.C_alloc ?_ _) | (with_reducible refine Kd.C_drewN ?_ _) | (with_reducible refine Kd.C_drew ?_))); (case side4 => exact (Kd.V_reads' HO_4.out).2.1); rintro e w' ⟨rfl, ⟨nd, rfl⟩⟩; refine ⟨_, rfl, ?_⟩) | ((with_reducible refine gate_callee (f := 15) rfl ?_); refine goesL_ (some 63) rfl rfl Try.func15 (by kernel_rfl) rfl #[.slice Ao34 t369.length co34, .int .i64 1] rfl (by (try simp only [List.map_toArray, List.map_cons, List.map_nil]); first | done | (rw [show t369.length = t349.length from (Kd.R_reads' HO_6.out).1.symm] <;> rfl) | rfl | (simp only [List.length_drop, List.length_take]; rfl)) ?_; (with_reducible refine (laws_heldByteS.calls kj16 _ _ t369 1 t385 _ ?side1 ?side2 A55.out).mono ?_); (case side1 => exact cR HO_6.out); (case side2 => rw [show t369.length = t349.length from (Kd.R_reads' HO_6.out).1.symm]; exact (Kd.R_reads' HO_6.out).2.1); rintro e w' ⟨rfl, ⟨nd, rfl⟩⟩; refine ⟨_, rfl, ?_⟩))
            go_ret
            exact ⟨by first | rfl | (simp [errW_none, errW_some] <;> rfl) | (simp [*, errW_none, errW_some] <;> rfl), bS HB.out⟩
           ·rw [if_neg c65] at H
            have c65b0 : (t385 == t368) = false := beq_eq_false_iff_ne.mpr c65
            have c65b1 : (t385 != t368) = true := bne_iff_ne.mpr c65
            obtain rfl := Option.some.inj H
            go_wp2_with (first | ((with_reducible refine gate_callee (f := 14) rfl ?_); refine gL (some 45) rfl rfl Try.func14 (by kernel_rfl) rfl #[.slice Ao34 t349.length co34, .int .i64 1] rfl ?_; (with_reducible refine (laws_markByteS.calls kj16 (fun k_ => some k_ = (.slice Ao34 t349.length co34 : Value).ownBlock) (.slice Ao34 t349.length co34) t349 1 t368 t369 w _ ?side1 ?side2 A46.out).mono ?_); (case side1 => repeat (first | (with_reducible first | exact HB.out | apply below_alloc | apply pw_below_drewN | apply below_drew1 | refine below_set ?_ GE323.out | refine below_set ?_ GE348.out) | exact HB.out)); (case side2 => exact Kd.R_tight rfl HO_6.out); rintro e w74 ⟨rfl, hy0, hb, hkp⟩; refine ⟨_, rfl, ?_⟩; have _ := aM (Kd.V_mono (ok' := fun k_ => some k_ ≠ (.slice Ao34 t349.length co34 : Value).ownBlock ∧ some k_ ≠ (.slice Ao31 t365.length co31 : Value).ownBlock ∧ some k_ ≠ (.slice Ao32 t366.length co32 : Value).ownBlock ∧ k_ ≠ gb323 ∧ k_ ≠ gb348) (Kd.V_keptB (HO_4.out) hkp (fun k_ hk_ hs_ => (hk_.1) hs_)) (fun k_ hk_ => by first | exact ⟨hk_.1.1, hk_.1.2.1, hk_.1.2.2.1, hk_.1.2.2.2.1, hk_.1.2.2.2.2⟩ | (simp only [ne_eq] at hk_ ⊢; simp [hk_]))); have _ := aM (Kd.R_reok rfl hy0 (fun k_ e_ => HO_6.out.1 k_ e_)); have _ := aM (Kd.R_mono (ok' := fun k_ => True) (Kd.R_keptB ((Kd.R_apart' HO_349004.out (Kd.R_typed HO_6.out) (by decide))) hkp (fun k_ hk_ hs_ => (hk_.2) hs_)) (fun k_ hk_ => trivial)); have _ := aM (Kd.R_mono (ok' := fun k_ => True) (Kd.R_keptB ((Kd.R_apart' HO_349005.out (Kd.R_typed HO_6.out) (by decide))) hkp (fun k_ hk_ hs_ => (hk_.2) hs_)) (fun k_ hk_ => trivial)); have _ := aM (blk_kept (kA BK323.out) hkp (fun hs_ => (fun e_ => (Kd.R_ne HO_6.out BK323.out (by decide)) e_) hs_)); have _ := aM (blk_kept (kA BK348.out) hkp (fun hs_ => (fun e_ => (Kd.R_ne HO_6.out BK348.out (by decide)) e_) hs_)); have _ := aM (hb); clear HO_4 HO_6 HO_349004 HO_349005 BK323 BK348 HB; rename_i HO_4 HO_6 HO_349004 HO_349005 BK323 BK348 HB; (try clear hb); (try clear hkp); (try clear hy0)) | ((with_reducible refine gate_callee (f := 15) rfl ?_); refine goesL_ (some 48) rfl rfl Try.func15 (by kernel_rfl) rfl #[.slice Ao34 t369.length co34, .int .i64 1] rfl (by (try simp only [List.map_toArray, List.map_cons, List.map_nil]); first | done | (rw [show t369.length = t349.length from (Kd.R_reads' HO_6.out).1.symm] <;> rfl) | rfl | (simp only [List.length_drop, List.length_take]; rfl)) ?_; (with_reducible refine (laws_heldByteS.calls kj16 _ _ t369 1 t370 _ ?side1 ?side2 A47.out).mono ?_); (case side1 => exact cR HO_6.out); (case side2 => rw [show t369.length = t349.length from (Kd.R_reads' HO_6.out).1.symm]; exact (Kd.R_reads' HO_6.out).2.1); rintro e w' ⟨rfl, ⟨nd, rfl⟩⟩; refine ⟨_, rfl, ?_⟩; have hnb75 := NB323_348.out; have hnc75 := NB348_323.out; obtain ⟨hcz76_0, hfz76_0, hcz76_1, hfz76_1, hcz76_2, hfz76_2, hcz76_3, hfz76_3, hcz76_4, hfz76_4, hcz76_5, hfz76_5⟩ := bk6 BK323.out) | ((with_reducible refine gate_callee (f := 9) rfl ?_); refine gL (some 55) rfl rfl Try.func9 (by kernel_rfl) rfl #[.agg #[.int .i64 a0_0, .int .i64 a0_1, .int .i64 a0_2, .int .i64 a0_3, .slice A0_4 l0_4.length c0_4, .slice A0_5 l0_5.length c0_5]] rfl ?_; (with_reducible refine (laws_toResp.calls kj16 a0_0 a0_1 a0_2 a0_3 _ _ l0_4 _ _ l0_5 t371 t372 t373 t374 t375 t378 _ ?side1 ?side2 ?side3 ?side4 A51.out).mono ?_); (case side1 => repeat (first | exact (Kd.C_below HR0_4.out (bS HB.out)) | (with_reducible refine Kd.C_alloc ?_ _) | (with_reducible refine Kd.C_drewN ?_ _) | (with_reducible refine Kd.C_drew ?_))); (case side2 => exact HC0_4.out); (case side3 => repeat (first | exact (Kd.C_below HR0_5.out (bS HB.out)) | (with_reducible refine Kd.C_alloc ?_ _) | (with_reducible refine Kd.C_drewN ?_ _) | (with_reducible refine Kd.C_drew ?_))); (case side4 => exact HC0_5.out); rintro e w77 ⟨v376, v379, rfl, ho0, ho1, hb⟩; refine ⟨_, rfl, ?_⟩; have _ := aM (Kd.V_mono (Kd.V_told (Kd.V_told (Kd.V_old (by (with_reducible repeat (first | apply Kd.V_alloc | apply Kd.V_drewN | apply Kd.V_drew)); exact HO_4.out) hb) (Kd.R_base ho0)) (Kd.R_base ho1)) (fun _ h_ => by first | exact h_.1 | (have h2_ := h_.1; simp only [ne_eq] at h2_ ⊢; simp [h2_]))); have _ := aM (rB HO_6.out hb); have _ := aM (Kd.R_elder' (rA HO_349004.out) (Kd.R_base ho0) hb); have _ := aM (Kd.R_elder' (rA HO_349005.out) (Kd.R_base ho1) hb); have _ := aM (Kd.R_lower (Kd.R_new' ho0 (Kd.R_lt (rA HO_349004.out))) (below_size (bS HB.out))); have _ := aM (Kd.R_lower (Kd.R_new' ho1 (Kd.R_lt (rA HO_349005.out))) (below_size (bS HB.out))); have _ := aM (kB BK323.out hb); have _ := aM (kB BK348.out hb); have _ := aM (below_step (bS HB.out) hb); clear HO_4 HO_6 HO_349004 HO_349005 BK323 BK348 HB; rename_i HO_4 HO_6 HO_349004 HO_349005 HO377 HO380 BK323 BK348 HB; (try clear hb); (try clear ho0); (try clear ho1); obtain ⟨Ao78, co78, eo78⟩ := Kd.R_slice HO377.out; subst eo78; obtain ⟨Ao79, co79, eo79⟩ := Kd.R_slice HO380.out; subst eo79) | ((with_reducible refine gate_callee (f := 10) rfl ?_); refine gL (some 56) rfl rfl Try.func10 (by kernel_rfl) rfl #[.agg #[.int .i64 t371, .int .i64 t372, .int .i64 t373, .int .i64 t374, .slice Ao78 t375.length co78, .slice Ao79 t378.length co79]] rfl ?_; (with_reducible refine (impl_PutResp.calls kj16 t371 t372 t373 t374 _ _ t375 _ _ t378 t381 _ ?side1 ?side2 ?side3 ?side4 A52.out).mono ?_); (case side1 => exact cR HO377.out); (case side2 => exact (Kd.R_reads' HO377.out).2.1); (case side3 => exact cR HO380.out); (case side4 => exact (Kd.R_reads' HO380.out).2.1); rintro e w80 ⟨v382, rfl, ho0, hb⟩; refine ⟨_, rfl, ?_⟩; have _ := aM (Kd.V_elder' (by (with_reducible repeat (first | apply Kd.V_alloc | apply Kd.V_drewN | apply Kd.V_drew)); exact HO_4.out) (Kd.R_base ho0) hb); have _ := aM (Kd.R_elder' (rA HO_6.out) (Kd.R_base ho0) hb); have _ := aM (rB HO_349004.out hb); have _ := aM (rB HO_349005.out hb); have _ := aM (rB HO377.out hb); have _ := aM (rB HO380.out hb); have _ := aM (Kd.R_lower (Kd.R_new' ho0 (Kd.R_lt (rA HO_6.out))) (below_size (bS HB.out))); have _ := aM (kB BK323.out hb); have _ := aM (kB BK348.out hb); have _ := aM (below_step (bS HB.out) hb); clear HO_4 HO_6 HO_349004 HO_349005 HO377 HO380 BK323 BK348 HB; rename_i HO_4 HO_6 HO_349004 HO_349005 HO377 HO380 HO383 BK323 BK348 HB; (try clear hb); (try clear ho0); obtain ⟨Ao81, co81, eo81⟩ := Kd.R_slice HO383.out; subst eo81) | ((with_reducible refine gate_callee (f := 11) rfl ?_); refine gL (some 59) rfl rfl Try.func11 (by kernel_rfl) rfl #[.slice Ao81 t381.length co81, .slice Ao35 t335.length co35] rfl ?_; (with_reducible refine (laws_eqByteS.calls kj16 _ _ t381 _ _ t335 true _ ?side1 ?side2 ?side3 ?side4 A53.out).mono ?_); (case side1 => exact cR HO383.out); (case side2 => exact (Kd.R_reads' HO383.out).2.1); (case side3 => repeat (first | exact (Kd.V_reads' HO_4.out).2.2 | (with_reducible refine Kd.C_alloc ?_ _) | (with_reducible refine Kd.C_drewN ?_ _) | (with_reducible refine Kd.C_drew ?_))); (case side4 => exact (Kd.V_reads' HO_4.out).2.1); rintro e w' ⟨rfl, ⟨nd, rfl⟩⟩; refine ⟨_, rfl, ?_⟩) | ((with_reducible refine gate_callee (f := 15) rfl ?_); refine goesL_ (some 63) rfl rfl Try.func15 (by kernel_rfl) rfl #[.slice Ao34 t369.length co34, .int .i64 1] rfl (by (try simp only [List.map_toArray, List.map_cons, List.map_nil]); first | done | (rw [show t369.length = t349.length from (Kd.R_reads' HO_6.out).1.symm] <;> rfl) | rfl | (simp only [List.length_drop, List.length_take]; rfl)) ?_; (with_reducible refine (laws_heldByteS.calls kj16 _ _ t369 1 t385 _ ?side1 ?side2 A55.out).mono ?_); (case side1 => exact cR HO_6.out); (case side2 => rw [show t369.length = t349.length from (Kd.R_reads' HO_6.out).1.symm]; exact (Kd.R_reads' HO_6.out).2.1); rintro e w' ⟨rfl, ⟨nd, rfl⟩⟩; refine ⟨_, rfl, ?_⟩))
            go_ret
            exact ⟨by first | rfl | (simp [errW_none, errW_some] <;> rfl) | (simp [*, errW_none, errW_some] <;> rfl), bS HB.out⟩
         ·replace c54 := Bool.eq_false_iff.mpr c54
          subst c54
          have H1 : (some false) = some r := by rw [if_neg (show ¬ (false = true) by decide)] at H; exact H
          clear H
          have H := H1
          clear H1
          obtain rfl := Option.some.inj H
          go_wp2_with (first | ((with_reducible refine gate_callee (f := 14) rfl ?_); refine gL (some 45) rfl rfl Try.func14 (by kernel_rfl) rfl #[.slice Ao34 t349.length co34, .int .i64 1] rfl ?_; (with_reducible refine (laws_markByteS.calls kj16 (fun k_ => some k_ = (.slice Ao34 t349.length co34 : Value).ownBlock) (.slice Ao34 t349.length co34) t349 1 t368 t369 w _ ?side1 ?side2 A46.out).mono ?_); (case side1 => repeat (first | (with_reducible first | exact HB.out | apply below_alloc | apply pw_below_drewN | apply below_drew1 | refine below_set ?_ GE323.out | refine below_set ?_ GE348.out) | exact HB.out)); (case side2 => exact Kd.R_tight rfl HO_6.out); rintro e w82 ⟨rfl, hy0, hb, hkp⟩; refine ⟨_, rfl, ?_⟩; have _ := aM (Kd.V_mono (ok' := fun k_ => some k_ ≠ (.slice Ao34 t349.length co34 : Value).ownBlock ∧ some k_ ≠ (.slice Ao31 t365.length co31 : Value).ownBlock ∧ some k_ ≠ (.slice Ao32 t366.length co32 : Value).ownBlock ∧ k_ ≠ gb323 ∧ k_ ≠ gb348) (Kd.V_keptB (HO_4.out) hkp (fun k_ hk_ hs_ => (hk_.1) hs_)) (fun k_ hk_ => by first | exact ⟨hk_.1.1, hk_.1.2.1, hk_.1.2.2.1, hk_.1.2.2.2.1, hk_.1.2.2.2.2⟩ | (simp only [ne_eq] at hk_ ⊢; simp [hk_]))); have _ := aM (Kd.R_reok rfl hy0 (fun k_ e_ => HO_6.out.1 k_ e_)); have _ := aM (Kd.R_mono (ok' := fun k_ => True) (Kd.R_keptB ((Kd.R_apart' HO_349004.out (Kd.R_typed HO_6.out) (by decide))) hkp (fun k_ hk_ hs_ => (hk_.2) hs_)) (fun k_ hk_ => trivial)); have _ := aM (Kd.R_mono (ok' := fun k_ => True) (Kd.R_keptB ((Kd.R_apart' HO_349005.out (Kd.R_typed HO_6.out) (by decide))) hkp (fun k_ hk_ hs_ => (hk_.2) hs_)) (fun k_ hk_ => trivial)); have _ := aM (blk_kept (kA BK323.out) hkp (fun hs_ => (fun e_ => (Kd.R_ne HO_6.out BK323.out (by decide)) e_) hs_)); have _ := aM (blk_kept (kA BK348.out) hkp (fun hs_ => (fun e_ => (Kd.R_ne HO_6.out BK348.out (by decide)) e_) hs_)); have _ := aM (hb); clear HO_4 HO_6 HO_349004 HO_349005 BK323 BK348 HB; rename_i HO_4 HO_6 HO_349004 HO_349005 BK323 BK348 HB; (try clear hb); (try clear hkp); (try clear hy0)) | ((with_reducible refine gate_callee (f := 15) rfl ?_); refine goesL_ (some 48) rfl rfl Try.func15 (by kernel_rfl) rfl #[.slice Ao34 t369.length co34, .int .i64 1] rfl (by (try simp only [List.map_toArray, List.map_cons, List.map_nil]); first | done | (rw [show t369.length = t349.length from (Kd.R_reads' HO_6.out).1.symm] <;> rfl) | rfl | (simp only [List.length_drop, List.length_take]; rfl)) ?_; (with_reducible refine (laws_heldByteS.calls kj16 _ _ t369 1 t370 _ ?side1 ?side2 A47.out).mono ?_); (case side1 => exact cR HO_6.out); (case side2 => rw [show t369.length = t349.length from (Kd.R_reads' HO_6.out).1.symm]; exact (Kd.R_reads' HO_6.out).2.1); rintro e w' ⟨rfl, ⟨nd, rfl⟩⟩; refine ⟨_, rfl, ?_⟩; have hnb83 := NB323_348.out; have hnc83 := NB348_323.out; obtain ⟨hcz84_0, hfz84_0, hcz84_1, hfz84_1, hcz84_2, hfz84_2, hcz84_3, hfz84_3, hcz84_4, hfz84_4, hcz84_5, hfz84_5⟩ := bk6 BK323.out) | ((with_reducible refine gate_callee (f := 9) rfl ?_); refine gL (some 55) rfl rfl Try.func9 (by kernel_rfl) rfl #[.agg #[.int .i64 a0_0, .int .i64 a0_1, .int .i64 a0_2, .int .i64 a0_3, .slice A0_4 l0_4.length c0_4, .slice A0_5 l0_5.length c0_5]] rfl ?_; (with_reducible refine (laws_toResp.calls kj16 a0_0 a0_1 a0_2 a0_3 _ _ l0_4 _ _ l0_5 t371 t372 t373 t374 t375 t378 _ ?side1 ?side2 ?side3 ?side4 A51.out).mono ?_); (case side1 => repeat (first | exact (Kd.C_below HR0_4.out (bS HB.out)) | (with_reducible refine Kd.C_alloc ?_ _) | (with_reducible refine Kd.C_drewN ?_ _) | (with_reducible refine Kd.C_drew ?_))); (case side2 => exact HC0_4.out); (case side3 => repeat (first | exact (Kd.C_below HR0_5.out (bS HB.out)) | (with_reducible refine Kd.C_alloc ?_ _) | (with_reducible refine Kd.C_drewN ?_ _) | (with_reducible refine Kd.C_drew ?_))); (case side4 => exact HC0_5.out); rintro e w85 ⟨v376, v379, rfl, ho0, ho1, hb⟩; refine ⟨_, rfl, ?_⟩; have _ := aM (Kd.V_mono (Kd.V_told (Kd.V_told (Kd.V_old (by (with_reducible repeat (first | apply Kd.V_alloc | apply Kd.V_drewN | apply Kd.V_drew)); exact HO_4.out) hb) (Kd.R_base ho0)) (Kd.R_base ho1)) (fun _ h_ => by first | exact h_.1 | (have h2_ := h_.1; simp only [ne_eq] at h2_ ⊢; simp [h2_]))); have _ := aM (rB HO_6.out hb); have _ := aM (Kd.R_elder' (rA HO_349004.out) (Kd.R_base ho0) hb); have _ := aM (Kd.R_elder' (rA HO_349005.out) (Kd.R_base ho1) hb); have _ := aM (Kd.R_lower (Kd.R_new' ho0 (Kd.R_lt (rA HO_349004.out))) (below_size (bS HB.out))); have _ := aM (Kd.R_lower (Kd.R_new' ho1 (Kd.R_lt (rA HO_349005.out))) (below_size (bS HB.out))); have _ := aM (kB BK323.out hb); have _ := aM (kB BK348.out hb); have _ := aM (below_step (bS HB.out) hb); clear HO_4 HO_6 HO_349004 HO_349005 BK323 BK348 HB; rename_i HO_4 HO_6 HO_349004 HO_349005 HO377 HO380 BK323 BK348 HB; (try clear hb); (try clear ho0); (try clear ho1); obtain ⟨Ao86, co86, eo86⟩ := Kd.R_slice HO377.out; subst eo86; obtain ⟨Ao87, co87, eo87⟩ := Kd.R_slice HO380.out; subst eo87) | ((with_reducible refine gate_callee (f := 10) rfl ?_); refine gL (some 56) rfl rfl Try.func10 (by kernel_rfl) rfl #[.agg #[.int .i64 t371, .int .i64 t372, .int .i64 t373, .int .i64 t374, .slice Ao86 t375.length co86, .slice Ao87 t378.length co87]] rfl ?_; (with_reducible refine (impl_PutResp.calls kj16 t371 t372 t373 t374 _ _ t375 _ _ t378 t381 _ ?side1 ?side2 ?side3 ?side4 A52.out).mono ?_); (case side1 => exact cR HO377.out); (case side2 => exact (Kd.R_reads' HO377.out).2.1); (case side3 => exact cR HO380.out); (case side4 => exact (Kd.R_reads' HO380.out).2.1); rintro e w88 ⟨v382, rfl, ho0, hb⟩; refine ⟨_, rfl, ?_⟩; have _ := aM (Kd.V_elder' (by (with_reducible repeat (first | apply Kd.V_alloc | apply Kd.V_drewN | apply Kd.V_drew)); exact HO_4.out) (Kd.R_base ho0) hb); have _ := aM (Kd.R_elder' (rA HO_6.out) (Kd.R_base ho0) hb); have _ := aM (rB HO_349004.out hb); have _ := aM (rB HO_349005.out hb); have _ := aM (rB HO377.out hb); have _ := aM (rB HO380.out hb); have _ := aM (Kd.R_lower (Kd.R_new' ho0 (Kd.R_lt (rA HO_6.out))) (below_size (bS HB.out))); have _ := aM (kB BK323.out hb); have _ := aM (kB BK348.out hb); have _ := aM (below_step (bS HB.out) hb); clear HO_4 HO_6 HO_349004 HO_349005 HO377 HO380 BK323 BK348 HB; rename_i HO_4 HO_6 HO_349004 HO_349005 HO377 HO380 HO383 BK323 BK348 HB; (try clear hb); (try clear ho0); obtain ⟨Ao89, co89, eo89⟩ := Kd.R_slice HO383.out; subst eo89) | ((with_reducible refine gate_callee (f := 11) rfl ?_); refine gL (some 59) rfl rfl Try.func11 (by kernel_rfl) rfl #[.slice Ao89 t381.length co89, .slice Ao35 t335.length co35] rfl ?_; (with_reducible refine (laws_eqByteS.calls kj16 _ _ t381 _ _ t335 false _ ?side1 ?side2 ?side3 ?side4 A53.out).mono ?_); (case side1 => exact cR HO383.out); (case side2 => exact (Kd.R_reads' HO383.out).2.1); (case side3 => repeat (first | exact (Kd.V_reads' HO_4.out).2.2 | (with_reducible refine Kd.C_alloc ?_ _) | (with_reducible refine Kd.C_drewN ?_ _) | (with_reducible refine Kd.C_drew ?_))); (case side4 => exact (Kd.V_reads' HO_4.out).2.1); rintro e w' ⟨rfl, ⟨nd, rfl⟩⟩; refine ⟨_, rfl, ?_⟩))
          go_ret
          exact ⟨by first | rfl | (simp [errW_none, errW_some] <;> rfl) | (simp [*, errW_none, errW_some] <;> rfl), bS HB.out⟩
        ·rw [if_neg c50] at H
         have c50b0 : (t370 == t368) = false := beq_eq_false_iff_ne.mpr c50
         have c50b1 : (t370 != t368) = true := bne_iff_ne.mpr c50
         obtain rfl := Option.some.inj H
         go_wp2_with (first | ((with_reducible refine gate_callee (f := 14) rfl ?_); refine gL (some 45) rfl rfl Try.func14 (by kernel_rfl) rfl #[.slice Ao34 t349.length co34, .int .i64 1] rfl ?_; (with_reducible refine (laws_markByteS.calls kj16 (fun k_ => some k_ = (.slice Ao34 t349.length co34 : Value).ownBlock) (.slice Ao34 t349.length co34) t349 1 t368 t369 w _ ?side1 ?side2 A46.out).mono ?_); (case side1 => repeat (first | (with_reducible first | exact HB.out | apply below_alloc | apply pw_below_drewN | apply below_drew1 | refine below_set ?_ GE323.out | refine below_set ?_ GE348.out) | exact HB.out)); (case side2 => exact Kd.R_tight rfl HO_6.out); rintro e w90 ⟨rfl, hy0, hb, hkp⟩; refine ⟨_, rfl, ?_⟩; have _ := aM (Kd.V_mono (ok' := fun k_ => some k_ ≠ (.slice Ao34 t349.length co34 : Value).ownBlock ∧ some k_ ≠ (.slice Ao31 t365.length co31 : Value).ownBlock ∧ some k_ ≠ (.slice Ao32 t366.length co32 : Value).ownBlock ∧ k_ ≠ gb323 ∧ k_ ≠ gb348) (Kd.V_keptB (HO_4.out) hkp (fun k_ hk_ hs_ => (hk_.1) hs_)) (fun k_ hk_ => by first | exact ⟨hk_.1.1, hk_.1.2.1, hk_.1.2.2.1, hk_.1.2.2.2.1, hk_.1.2.2.2.2⟩ | (simp only [ne_eq] at hk_ ⊢; simp [hk_]))); have _ := aM (Kd.R_reok rfl hy0 (fun k_ e_ => HO_6.out.1 k_ e_)); have _ := aM (Kd.R_mono (ok' := fun k_ => True) (Kd.R_keptB ((Kd.R_apart' HO_349004.out (Kd.R_typed HO_6.out) (by decide))) hkp (fun k_ hk_ hs_ => (hk_.2) hs_)) (fun k_ hk_ => trivial)); have _ := aM (Kd.R_mono (ok' := fun k_ => True) (Kd.R_keptB ((Kd.R_apart' HO_349005.out (Kd.R_typed HO_6.out) (by decide))) hkp (fun k_ hk_ hs_ => (hk_.2) hs_)) (fun k_ hk_ => trivial)); have _ := aM (blk_kept (kA BK323.out) hkp (fun hs_ => (fun e_ => (Kd.R_ne HO_6.out BK323.out (by decide)) e_) hs_)); have _ := aM (blk_kept (kA BK348.out) hkp (fun hs_ => (fun e_ => (Kd.R_ne HO_6.out BK348.out (by decide)) e_) hs_)); have _ := aM (hb); clear HO_4 HO_6 HO_349004 HO_349005 BK323 BK348 HB; rename_i HO_4 HO_6 HO_349004 HO_349005 BK323 BK348 HB; (try clear hb); (try clear hkp); (try clear hy0)) | ((with_reducible refine gate_callee (f := 15) rfl ?_); refine goesL_ (some 48) rfl rfl Try.func15 (by kernel_rfl) rfl #[.slice Ao34 t369.length co34, .int .i64 1] rfl (by (try simp only [List.map_toArray, List.map_cons, List.map_nil]); first | done | (rw [show t369.length = t349.length from (Kd.R_reads' HO_6.out).1.symm] <;> rfl) | rfl | (simp only [List.length_drop, List.length_take]; rfl)) ?_; (with_reducible refine (laws_heldByteS.calls kj16 _ _ t369 1 t370 _ ?side1 ?side2 A47.out).mono ?_); (case side1 => exact cR HO_6.out); (case side2 => rw [show t369.length = t349.length from (Kd.R_reads' HO_6.out).1.symm]; exact (Kd.R_reads' HO_6.out).2.1); rintro e w' ⟨rfl, ⟨nd, rfl⟩⟩; refine ⟨_, rfl, ?_⟩))
         go_ret
         exact ⟨by first | rfl | (simp [errW_none, errW_some] <;> rfl) | (simp [*, errW_none, errW_some] <;> rfl), bS HB.out⟩
   ·replace c15 := Bool.eq_false_iff.mpr c15
    subst c15
    have H1 : (some false) = some r := by rw [if_neg (show ¬ (false = true) by decide)] at H; exact H
    clear H
    have H := H1
    clear H1
    obtain rfl := Option.some.inj H
    go_enter Try.func3, Try.ntmps3
    try go_wp2_with (first | ((with_reducible refine gate_dst (N := 1) rfl ?_); refine box_event ?hg (N := 1) ?hd (cs := #[.int .i64 a0_0, .int .i64 a0_1, .int .i64 a0_2, .int .i64 a0_3, .slice A0_4 l0_4.length c0_4, .slice A0_5 l0_5.length c0_5]) (t := 25) ?hr ?_; (case hd => rfl); (case hg => rfl); (case hr => first | (go_simp; done) | (go_simp; rfl)); intro gb323 hg w91 hbox hb; have _ := aM (below_step (bS HB.out) hb); have _ := aM (hbox); have _ := aM (leG hg (bS HB.out)); have _ := aM (leG hg (bS HB.out)); clear HB; rename_i HB BK323 GW323 GE323; clear hb hbox hg; obtain ⟨hcz92_0, hfz92_0, hcz92_1, hfz92_1, hcz92_2, hfz92_2, hcz92_3, hfz92_3, hcz92_4, hfz92_4, hcz92_5, hfz92_5⟩ := bk6 BK323.out) | ((with_reducible refine gate_callee (f := 7) rfl ?_); refine gL (some 13) rfl rfl Try.func7 (by kernel_rfl) rfl #[.agg #[.int .i64 a0_0, .int .i64 a0_1, .int .i64 a0_2, .int .i64 a0_3, .slice A0_4 l0_4.length c0_4, .slice A0_5 l0_5.length c0_5], .int .i64 1048576] rfl ?_; (with_reducible refine (laws_szResp.calls a0_0 a0_1 a0_2 a0_3 _ _ l0_4 _ _ l0_5 1048576 t324 _ ?side1 ?side2 ?side3 ?side4 A2.out).mono ?_); (case side1 => exact cB HR0_4.out HB.out); (case side2 => exact HC0_4.out); (case side3 => exact cB HR0_5.out HB.out); (case side4 => exact HC0_5.out); rintro e w93 ⟨rfl, hb⟩; refine ⟨_, rfl, ?_⟩; have _ := aM (kB BK323.out hb); have _ := aM (below_step (bS HB.out) hb); clear BK323 HB; rename_i BK323 HB; (try clear hb); obtain ⟨hcz94_0, hfz94_0, hcz94_1, hfz94_1, hcz94_2, hfz94_2, hcz94_3, hfz94_3, hcz94_4, hfz94_4, hcz94_5, hfz94_5⟩ := bk6 BK323.out) | ((with_reducible refine gate_callee (f := 9) rfl ?_); refine gL (some 17) rfl rfl Try.func9 (by kernel_rfl) rfl #[.agg #[.int .i64 a0_0, .int .i64 a0_1, .int .i64 a0_2, .int .i64 a0_3, .slice A0_4 l0_4.length c0_4, .slice A0_5 l0_5.length c0_5]] rfl ?_; (with_reducible refine (laws_toResp.calls k a0_0 a0_1 a0_2 a0_3 _ _ l0_4 _ _ l0_5 t325 t326 t327 t328 t329 t332 _ ?side1 ?side2 ?side3 ?side4 A7.out).mono ?_); (case side1 => exact cB HR0_4.out HB.out); (case side2 => exact HC0_4.out); (case side3 => exact cB HR0_5.out HB.out); (case side4 => exact HC0_5.out); rintro e w95 ⟨v330, v333, rfl, ho0, ho1, hb⟩; refine ⟨_, rfl, ?_⟩; have _ := aM (Kd.R_lower ho0 (below_size (bS HB.out))); have _ := aM (Kd.R_lower ho1 (below_size (bS HB.out))); have _ := aM (kB BK323.out hb); have _ := aM (below_step (bS HB.out) hb); clear BK323 HB; rename_i HO331 HO334 BK323 HB; (try clear hb); (try clear ho0); (try clear ho1); obtain ⟨Ao96, co96, eo96⟩ := Kd.R_slice HO331.out; subst eo96; obtain ⟨Ao97, co97, eo97⟩ := Kd.R_slice HO334.out; subst eo97) | ((with_reducible refine gate_callee (f := 8) rfl ?_); refine gL (some 18) rfl rfl Try.func8 (by kernel_rfl) rfl #[.agg #[.int .i64 t325, .int .i64 t326, .int .i64 t327, .int .i64 t328, .slice Ao96 t329.length co96, .slice Ao97 t332.length co97]] rfl ?_; (with_reducible refine (spec_PutResp.calls k t325 t326 t327 t328 _ _ t329 _ _ t332 t335 _ ?side1 ?side2 ?side3 ?side4 A8.out).mono ?_); (case side1 => exact cR HO331.out); (case side2 => exact (Kd.R_reads' HO331.out).2.1); (case side3 => exact cR HO334.out); (case side4 => exact (Kd.R_reads' HO334.out).2.1); rintro e w98 ⟨v336, rfl, ho0, hb⟩; refine ⟨_, rfl, ?_⟩; have _ := aM (rB HO331.out hb); have _ := aM (rB HO334.out hb); have _ := aM (Kd.V_lower (Kd.V_mono (ok' := fun k_ => some k_ ≠ (.slice Ao96 t329.length co96 : Value).ownBlock ∧ some k_ ≠ (.slice Ao97 t332.length co97 : Value).ownBlock ∧ k_ ≠ gb323) ho0 (fun k_ hk_ => ⟨(Kd.fresh' (Kd.R_lt (rA HO331.out)) k_ hk_), (Kd.fresh' (Kd.R_lt (rA HO334.out)) k_ hk_), (Kd.freshB (g := gb323) (o := .cells #[.int .i64 a0_0, .int .i64 a0_1, .int .i64 a0_2, .int .i64 a0_3, .slice A0_4 l0_4.length c0_4, .slice A0_5 l0_5.length c0_5] 25 (0, 0)) (kA BK323.out) k_ hk_)⟩)) (below_size (bS HB.out))); have _ := aM (kB BK323.out hb); have _ := aM (below_step (bS HB.out) hb); clear HO331 HO334 BK323 HB; rename_i HO331 HO334 HO337 BK323 HB; (try clear hb); (try clear ho0); obtain ⟨hcz99_0, hfz99_0, hcz99_1, hfz99_1, hcz99_2, hfz99_2, hcz99_3, hfz99_3, hcz99_4, hfz99_4, hcz99_5, hfz99_5⟩ := bk6 BK323.out) | ((with_reducible refine gate_callee (f := 9) rfl ?_); refine gL (some 20) rfl rfl Try.func9 (by kernel_rfl) rfl #[.agg #[.int .i64 a0_0, .int .i64 a0_1, .int .i64 a0_2, .int .i64 a0_3, .slice A0_4 l0_4.length c0_4, .slice A0_5 l0_5.length c0_5]] rfl ?_; (with_reducible refine (laws_toResp.calls k a0_0 a0_1 a0_2 a0_3 _ _ l0_4 _ _ l0_5 t338 t339 t340 t341 t342 t345 _ ?side1 ?side2 ?side3 ?side4 A9.out).mono ?_); (case side1 => exact cB HR0_4.out HB.out); (case side2 => exact HC0_4.out); (case side3 => exact cB HR0_5.out HB.out); (case side4 => exact HC0_5.out); rintro e w100 ⟨v343, v346, rfl, ho0, ho1, hb⟩; refine ⟨_, rfl, ?_⟩; have _ := aM (Kd.R_elder' (rA HO331.out) (Kd.R_base ho0) hb); have _ := aM (Kd.R_elder' (rA HO334.out) (Kd.R_base ho1) hb); have _ := aM (Kd.V_mono (Kd.V_told (Kd.V_told (Kd.V_old (by (with_reducible repeat (first | apply Kd.V_alloc | apply Kd.V_drewN | apply Kd.V_drew)); exact HO337.out) hb) (Kd.R_base ho0)) (Kd.R_base ho1)) (fun _ h_ => by first | exact h_.1 | (have h2_ := h_.1; simp only [ne_eq] at h2_ ⊢; simp [h2_]))); have _ := aM (Kd.R_lower (Kd.R_new' ho0 (Kd.R_lt (rA HO331.out))) (below_size (bS HB.out))); have _ := aM (Kd.R_lower (Kd.R_new' ho1 (Kd.R_lt (rA HO334.out))) (below_size (bS HB.out))); have _ := aM (kB BK323.out hb); have _ := aM (below_step (bS HB.out) hb); clear HO331 HO334 HO337 BK323 HB; rename_i HO331 HO334 HO337 HO344 HO347 BK323 HB; (try clear hb); (try clear ho0); (try clear ho1)) | ((with_reducible refine gate_dst (N := 5) rfl ?_); refine box_event ?hg (N := 5) ?hd (cs := #[.int .i64 0, .int .i64 0, .int .i64 0, .int .i64 0, .slice none 0 0, .slice none 0 0]) (t := 29) ?hr ?_; (case hd => rfl); (case hg => rfl); (case hr => first | (go_simp; done) | (go_simp; rfl)); intro gb348 hg w101 hbox hb; have _ := aM (rB HO331.out hb); have _ := aM (rB HO334.out hb); have _ := aM (Kd.V_below (Kd.V_elderB (by (with_reducible repeat (first | apply Kd.V_alloc | apply Kd.V_drewN | apply Kd.V_drew)); exact HO337.out) gb348 (Nat.le_of_eq hg.symm)) hb); have _ := aM (rB HO344.out hb); have _ := aM (rB HO347.out hb); have _ := aM (kB BK323.out hb); have _ := aM (below_step (bS HB.out) hb); have _ := aM (hbox); have _ := aM (leG hg (bS HB.out)); have _ := aM (leG hg (bS HB.out)); have _ := aM (neL hg (kA BK323.out)); have _ := aM (neG hg (kA BK323.out)); clear HO331 HO334 HO337 HO344 HO347 BK323 HB; rename_i HO331 HO334 HO337 HO344 HO347 BK323 HB BK348 GW348 GE348 NB323_348 NB348_323; clear hb hbox hg; have hnb102 := NB348_323.out; have hnc102 := NB323_348.out; obtain ⟨hcz103_0, hfz103_0, hcz103_1, hfz103_1, hcz103_2, hfz103_2, hcz103_3, hfz103_3, hcz103_4, hfz103_4, hcz103_5, hfz103_5⟩ := bk6 BK348.out; obtain ⟨Ao104, co104, eo104⟩ := Kd.R_slice HO344.out; subst eo104; obtain ⟨Ao105, co105, eo105⟩ := Kd.R_slice HO347.out; subst eo105) | ((with_reducible refine gate_callee (f := 10) rfl ?_); refine gL (some 22) rfl rfl Try.func10 (by kernel_rfl) rfl #[.agg #[.int .i64 t338, .int .i64 t339, .int .i64 t340, .int .i64 t341, .slice Ao104 t342.length co104, .slice Ao105 t345.length co105]] rfl ?_; (with_reducible refine (impl_PutResp.calls k t338 t339 t340 t341 _ _ t342 _ _ t345 t349 _ ?side1 ?side2 ?side3 ?side4 A10.out).mono ?_); (case side1 => exact (Kd.R_reads' (rF6 HO344.out BK348.out)).2.2); (case side2 => exact (Kd.R_reads' HO344.out).2.1); (case side3 => exact (Kd.R_reads' (rF6 HO347.out BK348.out)).2.2); (case side4 => exact (Kd.R_reads' HO347.out).2.1); rintro e w106 ⟨v350, rfl, ho0, hb⟩; refine ⟨_, rfl, ?_⟩; have _ := aM (Kd.R_below (rF6 HO331.out BK348.out) hb); have _ := aM (Kd.R_below (rF6 HO334.out BK348.out) hb); have _ := aM (Kd.V_elder' (by (with_reducible repeat (first | apply Kd.V_alloc | apply Kd.V_drewN | apply Kd.V_drew)); exact (Kd.V_mono (Kd.V_far (p := ⟨gb348, 5, none⟩) (Kd.V_far (p := ⟨gb348, 4, none⟩) (Kd.V_far (p := ⟨gb348, 3, none⟩) (Kd.V_far (p := ⟨gb348, 2, none⟩) (Kd.V_far (p := ⟨gb348, 1, none⟩) (Kd.V_far (p := ⟨gb348, 0, none⟩) (Kd.V_mono HO337.out (fun k_ hk => (⟨hk, hk.2⟩ : _ ∧ k_ ≠ gb348))) (fun _ hk => hk.2) (.int .i64 t338)) (fun _ hk => hk.2) (.int .i64 t339)) (fun _ hk => hk.2) (.int .i64 t340)) (fun _ hk => hk.2) (.int .i64 t341)) (fun _ hk => hk.2) (.slice Ao104 t342.length co104)) (fun _ hk => hk.2) (.slice Ao105 t345.length co105)) (fun _ h_ => by first | exact h_.1 | (have h2_ := h_.1; simp only [ne_eq] at h2_ ⊢; simp [h2_])))) (Kd.R_base ho0) hb); have _ := aM (Kd.R_below (rF6 HO344.out BK348.out) hb); have _ := aM (Kd.R_below (rF6 HO347.out BK348.out) hb); have _ := aM (Kd.R_lower ho0 (below_size (bS HB.out))); have _ := aM (blk_below (kF6 BK323.out NB323_348.out) hb); have _ := aM (blk_below (kP6 BK348.out) hb); have _ := aM (below_step (bS HB.out) hb); clear HO331 HO334 HO337 HO344 HO347 BK323 BK348 HB; rename_i HO331 HO334 HO337 HO344 HO347 HO351 BK323 BK348 HB; (try clear hb); (try clear hk); (try clear ho0); obtain ⟨Ao107, co107, eo107⟩ := Kd.R_slice HO351.out; subst eo107; obtain ⟨Ao108, co108, eo108⟩ := Kd.V_slice HO337.out; subst eo108) | ((with_reducible refine gate_callee (f := 11) rfl ?_); refine gL (some 25) rfl rfl Try.func11 (by kernel_rfl) rfl #[.slice Ao107 t349.length co107, .slice Ao108 t335.length co108] rfl ?_; (with_reducible refine (laws_eqByteS.calls k _ _ t349 _ _ t335 true _ ?side1 ?side2 ?side3 ?side4 A11.out).mono ?_); (case side1 => exact cR HO351.out); (case side2 => exact (Kd.R_reads' HO351.out).2.1); (case side3 => repeat (first | exact (Kd.V_reads' HO337.out).2.2 | (with_reducible refine Kd.C_alloc ?_ _) | (with_reducible refine Kd.C_drewN ?_ _) | (with_reducible refine Kd.C_drew ?_))); (case side4 => exact (Kd.V_reads' HO337.out).2.1); rintro e w' ⟨rfl, ⟨nd, rfl⟩⟩; refine ⟨_, rfl, ?_⟩))
    (try (rw [drewN_self w106]; generalize hq_ : World.drewN w106 _ = w106; have n0_ : Aside0 (Kd.R (Kd.int .i64) 3 w106 w.heap.size (fun k_ => some k_ ≠ (.slice Ao104 t342.length co104 : Value).ownBlock) (.slice Ao96 t329.length co96) t329) := ⟨by rw [← hq_]; exact (by (with_reducible repeat (first | apply Kd.R_alloc | apply Kd.R_drewN | apply Kd.R_drew)); exact Kd.R_mono HO331.out (fun _ hk => hk.2))⟩; have n1_ : Aside0 (Kd.R Kd.bool 4 w106 w.heap.size (fun k_ => some k_ ≠ (.slice Ao105 t345.length co105 : Value).ownBlock) (.slice Ao97 t332.length co97) t332) := ⟨by rw [← hq_]; exact (by (with_reducible repeat (first | apply Kd.R_alloc | apply Kd.R_drewN | apply Kd.R_drew)); exact Kd.R_mono HO334.out (fun _ hk => hk.2))⟩; have n2_ : Aside0 (Kd.V (Kd.int .u8) 5 w106 w.heap.size (fun k_ => some k_ ≠ (.slice Ao96 t329.length co96 : Value).ownBlock ∧ some k_ ≠ (.slice Ao97 t332.length co97 : Value).ownBlock ∧ some k_ ≠ (.slice Ao104 t342.length co104 : Value).ownBlock ∧ some k_ ≠ (.slice Ao105 t345.length co105 : Value).ownBlock ∧ some k_ ≠ (.slice Ao107 t349.length co107 : Value).ownBlock ∧ k_ ≠ gb323 ∧ k_ ≠ gb348) (.slice Ao108 t335.length co108) t335) := ⟨by rw [← hq_]; exact (by (with_reducible repeat (first | apply Kd.V_alloc | apply Kd.V_drewN | apply Kd.V_drew)); exact Kd.V_mono HO337.out (fun _ hk => by first | exact ⟨hk.1.1.1.1.1, ⟨hk.1.1.1.1.2.1, ⟨hk.1.1.1.2, ⟨hk.1.1.2, ⟨hk.2, ⟨hk.1.1.1.1.2.2, hk.1.2⟩⟩⟩⟩⟩⟩ | (simp only [ne_eq] at hk ⊢; simp [hk])))⟩; have n3_ : Aside0 (Kd.R (Kd.int .i64) 3 w106 w.heap.size (fun k_ => some k_ ≠ (.slice Ao96 t329.length co96 : Value).ownBlock) (.slice Ao104 t342.length co104) t342) := ⟨by rw [← hq_]; exact (by (with_reducible repeat (first | apply Kd.R_alloc | apply Kd.R_drewN | apply Kd.R_drew)); exact Kd.R_mono HO344.out (fun _ hk => hk.2))⟩; have n4_ : Aside0 (Kd.R Kd.bool 4 w106 w.heap.size (fun k_ => some k_ ≠ (.slice Ao97 t332.length co97 : Value).ownBlock) (.slice Ao105 t345.length co105) t345) := ⟨by rw [← hq_]; exact (by (with_reducible repeat (first | apply Kd.R_alloc | apply Kd.R_drewN | apply Kd.R_drew)); exact Kd.R_mono HO347.out (fun _ hk => hk.2))⟩; have n5_ : Aside0 (Kd.R (Kd.int .u8) 5 w106 w.heap.size (fun _ => True) (.slice Ao107 t349.length co107) t349) := ⟨by rw [← hq_]; exact (rA HO351.out)⟩; have n6_ : Aside0 (w106.heap[gb323]? = some (.cells #[.int .i64 a0_0, .int .i64 a0_1, .int .i64 a0_2, .int .i64 a0_3, .slice A0_4 l0_4.length c0_4, .slice A0_5 l0_5.length c0_5] 25 (0, 0))) := ⟨by rw [← hq_]; exact (kA BK323.out)⟩; have n7_ : Aside0 (w106.heap[gb348]? = some (.cells #[.int .i64 t338, .int .i64 t339, .int .i64 t340, .int .i64 t341, .slice Ao104 t342.length co104, .slice Ao105 t345.length co105] 29 (0, 0))) := ⟨by rw [← hq_]; exact (kA BK348.out)⟩; have n8_ : Aside0 (Below w.heap.size w w106) := ⟨by rw [← hq_]; exact (bS HB.out)⟩; clear HO331 HO334 HO337 HO344 HO347 HO351 BK323 BK348 HB hq_; have HO331 := n0_; have HO334 := n1_; have HO337 := n2_; have HO344 := n3_; have HO347 := n4_; have HO351 := n5_; have BK323 := n6_; have BK348 := n7_; have HB := n8_; clear n0_ n1_ n2_ n3_ n4_ n5_ n6_ n7_ n8_; have hcugb323_0 : w106.cell? ⟨gb323, 0, none⟩ = some (.int .i64 a0_0) := (blk_cell BK323.out 0).trans rfl; have hfugb323_0 := blk_frozen BK323.out 0; have hcugb323_1 : w106.cell? ⟨gb323, 1, none⟩ = some (.int .i64 a0_1) := (blk_cell BK323.out 1).trans rfl; have hfugb323_1 := blk_frozen BK323.out 1; have hcugb323_2 : w106.cell? ⟨gb323, 2, none⟩ = some (.int .i64 a0_2) := (blk_cell BK323.out 2).trans rfl; have hfugb323_2 := blk_frozen BK323.out 2; have hcugb323_3 : w106.cell? ⟨gb323, 3, none⟩ = some (.int .i64 a0_3) := (blk_cell BK323.out 3).trans rfl; have hfugb323_3 := blk_frozen BK323.out 3; have hcugb323_4 : w106.cell? ⟨gb323, 4, none⟩ = some (.slice A0_4 l0_4.length c0_4) := (blk_cell BK323.out 4).trans rfl; have hfugb323_4 := blk_frozen BK323.out 4; have hcugb323_5 : w106.cell? ⟨gb323, 5, none⟩ = some (.slice A0_5 l0_5.length c0_5) := (blk_cell BK323.out 5).trans rfl; have hfugb323_5 := blk_frozen BK323.out 5; have hcugb348_0 : w106.cell? ⟨gb348, 0, none⟩ = some (.int .i64 t338) := (blk_cell BK348.out 0).trans rfl; have hfugb348_0 := blk_frozen BK348.out 0; have hcugb348_1 : w106.cell? ⟨gb348, 1, none⟩ = some (.int .i64 t339) := (blk_cell BK348.out 1).trans rfl; have hfugb348_1 := blk_frozen BK348.out 1; have hcugb348_2 : w106.cell? ⟨gb348, 2, none⟩ = some (.int .i64 t340) := (blk_cell BK348.out 2).trans rfl; have hfugb348_2 := blk_frozen BK348.out 2; have hcugb348_3 : w106.cell? ⟨gb348, 3, none⟩ = some (.int .i64 t341) := (blk_cell BK348.out 3).trans rfl; have hfugb348_3 := blk_frozen BK348.out 3; have hcugb348_4 : w106.cell? ⟨gb348, 4, none⟩ = some (.slice Ao104 t342.length co104) := (blk_cell BK348.out 4).trans rfl; have hfugb348_4 := blk_frozen BK348.out 4; have hcugb348_5 : w106.cell? ⟨gb348, 5, none⟩ = some (.slice Ao105 t345.length co105) := (blk_cell BK348.out 5).trans rfl; have hfugb348_5 := blk_frozen BK348.out 5))
    have n0_ := aM (Kd.R_drew HO331.out)
    have n1_ := aM (Kd.R_drew HO334.out)
    have n2_ := aM (Kd.V_drew HO337.out)
    have n3_ := aM (Kd.R_drew HO344.out)
    have n4_ := aM (Kd.R_drew HO347.out)
    have n5_ := aM (Kd.R_drew HO351.out)
    have n6_ := aM (blk_drew BK323.out)
    have n7_ := aM (blk_drew BK348.out)
    have n8_ := aM (below_drew1 HB.out)
    clear HO331
    clear HO334
    clear HO337
    clear HO344
    clear HO347
    clear HO351
    clear BK323
    clear BK348
    clear HB
    have HO331 := n0_
    have HO334 := n1_
    have HO337 := n2_
    have HO344 := n3_
    have HO347 := n4_
    have HO351 := n5_
    have BK323 := n6_
    have BK348 := n7_
    have HB := n8_
    clear n0_ n1_ n2_ n3_ n4_ n5_ n6_ n7_ n8_
    refine start_ (n := 5) (S := fun w' => w'.cell? ⟨gb348, 0, none⟩ = some (.int .i64 t338) ∧ w'.cell? ⟨gb348, 1, none⟩ = some (.int .i64 t339) ∧ w'.cell? ⟨gb348, 2, none⟩ = some (.int .i64 t340) ∧ w'.cell? ⟨gb348, 3, none⟩ = some (.int .i64 t341) ∧ w'.cell? ⟨gb348, 4, none⟩ = some (.slice Ao104 t342.length co104) ∧ w'.cell? ⟨gb348, 5, none⟩ = some (.slice Ao105 t345.length co105) ∧ w'.cell? ⟨gb323, 0, none⟩ = some (.int .i64 a0_0) ∧ w'.cell? ⟨gb323, 1, none⟩ = some (.int .i64 a0_1) ∧ w'.cell? ⟨gb323, 2, none⟩ = some (.int .i64 a0_2) ∧ w'.cell? ⟨gb323, 3, none⟩ = some (.int .i64 a0_3) ∧ w'.cell? ⟨gb323, 4, none⟩ = some (.slice A0_4 l0_4.length c0_4) ∧ w'.cell? ⟨gb323, 5, none⟩ = some (.slice A0_5 l0_5.length c0_5)) (ds := []) #[false, false, false, false, false] (by kernel_rfl) rfl rfl ⟨(blk_cell BK348.out 0).trans rfl, (blk_cell BK348.out 1).trans rfl, (blk_cell BK348.out 2).trans rfl, (blk_cell BK348.out 3).trans rfl, (blk_cell BK348.out 4).trans rfl, (blk_cell BK348.out 5).trans rfl, (blk_cell BK323.out 0).trans rfl, (blk_cell BK323.out 1).trans rfl, (blk_cell BK323.out 2).trans rfl, (blk_cell BK323.out 3).trans rfl, (blk_cell BK323.out 4).trans rfl, (blk_cell BK323.out 5).trans rfl⟩ (fun hHeld => ?_)
    generalize w106.drew = w109 at HO331 HO334 HO337 HO344 HO347 HO351 BK323 BK348 HB hHeld ⊢
    refine take_ (i := 0) (N := some 27) (v := ?_) (a' := ?_) #[true, false, false, false, false] rfl rfl (by kernel_rfl) (fun _ _ _ h => h) (Or.inl ⟨by rfl, ?_⟩) hHeld ?_ ?_
    rotate_left
    ·rintro w' ⟨s0, s1, s2, s3, s4, s5, s6, s7, s8, s9, s10, s11⟩
     go_simp
     with_reducible rfl
    rotate_left
    ·simp only [Act.put, List.setIfInBounds_toArray, List.set_cons_zero, List.set_cons_succ, i64_w, i32_w]
     rfl
    refine take_ (i := 1) (N := some 28) (v := ?_) (a' := ?_) #[true, true, false, false, false] rfl rfl (by kernel_rfl) (fun _ _ _ h => h) (Or.inl ⟨by rfl, ?_⟩) hHeld ?_ ?_
    rotate_left
    ·rintro w' ⟨s0, s1, s2, s3, s4, s5, s6, s7, s8, s9, s10, s11⟩
     go_simp
     with_reducible rfl
    rotate_left
    ·simp only [Act.put, List.setIfInBounds_toArray, List.set_cons_zero, List.set_cons_succ, i64_w, i32_w]
     rfl
    refine one_ (i := 2) (N := some 29) #[true, true, true, false, false] rfl rfl (by kernel_rfl) (by decide) (fun K hK => ?_)
    refine goes_ Try.func9 (by kernel_rfl) rfl #[.agg #[.int .i64 a0_0, .int .i64 a0_1, .int .i64 a0_2, .int .i64 a0_3, .slice A0_4 l0_4.length c0_4, .slice A0_5 l0_5.length c0_5]] (by rfl) rfl rfl (by (try simp only [List.map_toArray, List.map_cons, List.map_nil]); first | done | rfl | (simp only [List.length_drop, List.length_take]; rfl)) ?_
    with_reducible refine (laws_toResp.calls k a0_0 a0_1 a0_2 a0_3 _ _ l0_4 _ _ l0_5 t353 t354 t355 t356 t357 t360 _ ?side1 ?side2 ?side3 ?side4 A13.out).mono ?_
    (case side1 => exact cB HR0_4.out HB.out)
    (case side2 => exact HC0_4.out)
    (case side3 => exact cB HR0_5.out HB.out)
    (case side4 => exact HC0_5.out)
    rintro e w110 ⟨v358, v361, rfl, ho0, ho1, hb⟩
    refine ⟨_, rfl, ?_⟩
    have n0_ := aM (Kd.R_elder' (rA HO331.out) (Kd.R_base ho0) hb)
    have n1_ := aM (Kd.R_elder' (rA HO334.out) (Kd.R_base ho1) hb)
    have n2_ := aM (Kd.V_mono (Kd.V_told (Kd.V_told (Kd.V_old (by (with_reducible repeat (first | apply Kd.V_alloc | apply Kd.V_drewN | apply Kd.V_drew)); exact HO337.out) hb) (Kd.R_base ho0)) (Kd.R_base ho1)) (fun _ h_ => by first | exact h_.1 | (have h2_ := h_.1; simp only [ne_eq] at h2_ ⊢; simp [h2_])))
    have n3_ := aM (Kd.R_elder' (rA HO344.out) (Kd.R_base ho0) hb)
    have n4_ := aM (Kd.R_elder' (rA HO347.out) (Kd.R_base ho1) hb)
    have n5_ := aM (rB HO351.out hb)
    have n6_ := aM (Kd.R_lower (Kd.R_new' (Kd.R_new' ho0 (Kd.R_lt (rA HO331.out))) (Kd.R_lt (rA HO344.out))) (below_size (bS HB.out)))
    have n7_ := aM (Kd.R_lower (Kd.R_new' (Kd.R_new' ho1 (Kd.R_lt (rA HO334.out))) (Kd.R_lt (rA HO347.out))) (below_size (bS HB.out)))
    have n8_ := aM (kB BK323.out hb)
    have n9_ := aM (kB BK348.out hb)
    have n10_ := aM (below_step (bS HB.out) hb)
    clear HO331
    clear HO334
    clear HO337
    clear HO344
    clear HO347
    clear HO351
    clear BK323
    clear BK348
    clear HB
    have HO331 := n0_
    have HO334 := n1_
    have HO337 := n2_
    have HO344 := n3_
    have HO347 := n4_
    have HO351 := n5_
    have HO359 := n6_
    have HO362 := n7_
    have BK323 := n8_
    have BK348 := n9_
    have HB := n10_
    clear n0_ n1_ n2_ n3_ n4_ n5_ n6_ n7_ n8_ n9_ n10_
    (try clear hb)
    (try clear hb2)
    (try clear hk)
    (try clear hi)
    (try clear ho0)
    (try clear ho1)
    obtain ⟨Ao111, co111, eo111⟩ := Kd.R_slice HO359.out
    (first | subst eo111 | (injection eo111 with f1_ f2_ f3_; have f4_ := f1_.symm; have f5_ := f3_.symm; clear f1_ f2_ f3_; subst f4_; subst f5_))
    obtain ⟨Ao112, co112, eo112⟩ := Kd.R_slice HO362.out
    (first | subst eo112 | (injection eo112 with f1_ f2_ f3_; have f4_ := f1_.symm; have f5_ := f3_.symm; clear f1_ f2_ f3_; subst f4_; subst f5_))
    refine hK.out _ _ ⟨(blk_cell BK348.out 0).trans rfl, (blk_cell BK348.out 1).trans rfl, (blk_cell BK348.out 2).trans rfl, (blk_cell BK348.out 3).trans rfl, (blk_cell BK348.out 4).trans rfl, (blk_cell BK348.out 5).trans rfl, (blk_cell BK323.out 0).trans rfl, (blk_cell BK323.out 1).trans rfl, (blk_cell BK323.out 2).trans rfl, (blk_cell BK323.out 3).trans rfl, (blk_cell BK323.out 4).trans rfl, (blk_cell BK323.out 5).trans rfl⟩ (fun hHeld => ?_)
    clear hK K
    refine norm_ (a' := ?_) ?_ ?_
    rotate_left
    ·show Act.put _ (some 29) _ = _
     simp only [Act.put, List.setIfInBounds_toArray, List.set_cons_zero, List.set_cons_succ, i64_w, i32_w]
     rfl
    refine one_ (i := 3) (N := some 30) #[true, true, true, true, false] rfl rfl (by kernel_rfl) (by decide) (fun K hK => ?_)
    refine goes_ Try.func12 (by kernel_rfl) rfl #[.agg #[.int .i64 t338, .int .i64 t339, .int .i64 t340, .int .i64 t341, .slice Ao104 t342.length co104, .slice Ao105 t345.length co105], .agg #[.int .i64 t353, .int .i64 t354, .int .i64 t355, .int .i64 t356, .slice Ao111 t357.length co111, .slice Ao112 t360.length co112]] (by rfl) rfl rfl (by (try simp only [List.map_toArray, List.map_cons, List.map_nil]); first | done | rfl | (simp only [List.length_drop, List.length_take]; rfl)) ?_
    with_reducible refine (laws_eqResp.calls k t338 t339 t340 t341 _ _ t342 _ _ t345 t353 t354 t355 t356 _ _ t357 _ _ t360 false _ ?side1 ?side2 ?side3 ?side4 ?side5 ?side6 ?side7 ?side8 A14.out).mono ?_
    (case side1 => exact cR HO344.out)
    (case side2 => exact (Kd.R_reads' HO344.out).2.1)
    (case side3 => exact cR HO347.out)
    (case side4 => exact (Kd.R_reads' HO347.out).2.1)
    (case side5 => exact cR HO359.out)
    (case side6 => exact (Kd.R_reads' HO359.out).2.1)
    (case side7 => exact cR HO362.out)
    (case side8 => exact (Kd.R_reads' HO362.out).2.1)
    rintro e w113 ⟨rfl, hb⟩
    refine ⟨_, rfl, ?_⟩
    have n0_ := aM (rB HO331.out hb)
    have n1_ := aM (rB HO334.out hb)
    have n2_ := aM (Kd.V_below (by (with_reducible repeat (first | apply Kd.V_alloc | apply Kd.V_drewN | apply Kd.V_drew)); exact HO337.out) hb)
    have n3_ := aM (rB HO344.out hb)
    have n4_ := aM (rB HO347.out hb)
    have n5_ := aM (rB HO351.out hb)
    have n6_ := aM (rB HO359.out hb)
    have n7_ := aM (rB HO362.out hb)
    have n8_ := aM (kB BK323.out hb)
    have n9_ := aM (kB BK348.out hb)
    have n10_ := aM (below_step (bS HB.out) hb)
    clear HO331
    clear HO334
    clear HO337
    clear HO344
    clear HO347
    clear HO351
    clear HO359
    clear HO362
    clear BK323
    clear BK348
    clear HB
    have HO331 := n0_
    have HO334 := n1_
    have HO337 := n2_
    have HO344 := n3_
    have HO347 := n4_
    have HO351 := n5_
    have HO359 := n6_
    have HO362 := n7_
    have BK323 := n8_
    have BK348 := n9_
    have HB := n10_
    clear n0_ n1_ n2_ n3_ n4_ n5_ n6_ n7_ n8_ n9_ n10_
    (try clear hb)
    (try clear hb2)
    (try clear hk)
    (try clear hi)
    refine hK.out _ _ ⟨(blk_cell BK348.out 0).trans rfl, (blk_cell BK348.out 1).trans rfl, (blk_cell BK348.out 2).trans rfl, (blk_cell BK348.out 3).trans rfl, (blk_cell BK348.out 4).trans rfl, (blk_cell BK348.out 5).trans rfl, (blk_cell BK323.out 0).trans rfl, (blk_cell BK323.out 1).trans rfl, (blk_cell BK323.out 2).trans rfl, (blk_cell BK323.out 3).trans rfl, (blk_cell BK323.out 4).trans rfl, (blk_cell BK323.out 5).trans rfl⟩ (fun hHeld => ?_)
    clear hK K
    refine norm_ (a' := ?_) ?_ ?_
    rotate_left
    ·show Act.put _ (some 30) _ = _
     simp only [Act.put, List.setIfInBounds_toArray, List.set_cons_zero, List.set_cons_succ, i64_w, i32_w]
     rfl
    refine pure_ (i := 4) (N := some 31) (v := ?_) (a' := ?_) #[true, true, true, true, true] rfl rfl (by kernel_rfl) (fun _ _ _ h => h) (Or.inl ⟨by rfl, ?_⟩) ?_ ?_
    rotate_left
    ·intro w'
     go_simp
     with_reducible rfl
    rotate_left
    ·simp only [Act.put, List.setIfInBounds_toArray, List.set_cons_zero, List.set_cons_succ, i64_w, i32_w]
     rfl
    refine done_ (by kernel_rfl) ?_
    try go_wp2
    go_ret
    exact ⟨by first | rfl | (simp [errW_none, errW_some] <;> rfl) | (simp [*, errW_none, errW_some] <;> rfl), bS HB.out⟩
  ·replace c12 := Bool.eq_false_iff.mpr c12
   subst c12
   have H1 : (some false) = some r := by rw [if_neg (show ¬ (false = true) by decide)] at H; exact H
   clear H
   have H := H1
   clear H1
   obtain rfl := Option.some.inj H
   go_enter Try.func3, Try.ntmps3
   go_wp2_with (first | ((with_reducible refine gate_dst (N := 1) rfl ?_); refine box_event ?hg (N := 1) ?hd (cs := #[.int .i64 a0_0, .int .i64 a0_1, .int .i64 a0_2, .int .i64 a0_3, .slice A0_4 l0_4.length c0_4, .slice A0_5 l0_5.length c0_5]) (t := 25) ?hr ?_; (case hd => rfl); (case hg => rfl); (case hr => first | (go_simp; done) | (go_simp; rfl)); intro gb323 hg w114 hbox hb; have _ := aM (below_step (bS HB.out) hb); have _ := aM (hbox); have _ := aM (leG hg (bS HB.out)); have _ := aM (leG hg (bS HB.out)); clear HB; rename_i HB BK323 GW323 GE323; clear hb hbox hg; obtain ⟨hcz115_0, hfz115_0, hcz115_1, hfz115_1, hcz115_2, hfz115_2, hcz115_3, hfz115_3, hcz115_4, hfz115_4, hcz115_5, hfz115_5⟩ := bk6 BK323.out) | ((with_reducible refine gate_callee (f := 7) rfl ?_); refine gL (some 13) rfl rfl Try.func7 (by kernel_rfl) rfl #[.agg #[.int .i64 a0_0, .int .i64 a0_1, .int .i64 a0_2, .int .i64 a0_3, .slice A0_4 l0_4.length c0_4, .slice A0_5 l0_5.length c0_5], .int .i64 1048576] rfl ?_; (with_reducible refine (laws_szResp.calls a0_0 a0_1 a0_2 a0_3 _ _ l0_4 _ _ l0_5 1048576 t324 _ ?side1 ?side2 ?side3 ?side4 A2.out).mono ?_); (case side1 => exact cB HR0_4.out HB.out); (case side2 => exact HC0_4.out); (case side3 => exact cB HR0_5.out HB.out); (case side4 => exact HC0_5.out); rintro e w116 ⟨rfl, hb⟩; refine ⟨_, rfl, ?_⟩; have _ := aM (kB BK323.out hb); have _ := aM (below_step (bS HB.out) hb); clear BK323 HB; rename_i BK323 HB; (try clear hb); obtain ⟨hcz117_0, hfz117_0, hcz117_1, hfz117_1, hcz117_2, hfz117_2, hcz117_3, hfz117_3, hcz117_4, hfz117_4, hcz117_5, hfz117_5⟩ := bk6 BK323.out) | ((with_reducible refine gate_callee (f := 9) rfl ?_); refine gL (some 17) rfl rfl Try.func9 (by kernel_rfl) rfl #[.agg #[.int .i64 a0_0, .int .i64 a0_1, .int .i64 a0_2, .int .i64 a0_3, .slice A0_4 l0_4.length c0_4, .slice A0_5 l0_5.length c0_5]] rfl ?_; (with_reducible refine (laws_toResp.calls k a0_0 a0_1 a0_2 a0_3 _ _ l0_4 _ _ l0_5 t325 t326 t327 t328 t329 t332 _ ?side1 ?side2 ?side3 ?side4 A7.out).mono ?_); (case side1 => exact cB HR0_4.out HB.out); (case side2 => exact HC0_4.out); (case side3 => exact cB HR0_5.out HB.out); (case side4 => exact HC0_5.out); rintro e w118 ⟨v330, v333, rfl, ho0, ho1, hb⟩; refine ⟨_, rfl, ?_⟩; have _ := aM (Kd.R_lower ho0 (below_size (bS HB.out))); have _ := aM (Kd.R_lower ho1 (below_size (bS HB.out))); have _ := aM (kB BK323.out hb); have _ := aM (below_step (bS HB.out) hb); clear BK323 HB; rename_i HO331 HO334 BK323 HB; (try clear hb); (try clear ho0); (try clear ho1); obtain ⟨Ao119, co119, eo119⟩ := Kd.R_slice HO331.out; subst eo119; obtain ⟨Ao120, co120, eo120⟩ := Kd.R_slice HO334.out; subst eo120) | ((with_reducible refine gate_callee (f := 8) rfl ?_); refine gL (some 18) rfl rfl Try.func8 (by kernel_rfl) rfl #[.agg #[.int .i64 t325, .int .i64 t326, .int .i64 t327, .int .i64 t328, .slice Ao119 t329.length co119, .slice Ao120 t332.length co120]] rfl ?_; (with_reducible refine (spec_PutResp.calls k t325 t326 t327 t328 _ _ t329 _ _ t332 t335 _ ?side1 ?side2 ?side3 ?side4 A8.out).mono ?_); (case side1 => exact cR HO331.out); (case side2 => exact (Kd.R_reads' HO331.out).2.1); (case side3 => exact cR HO334.out); (case side4 => exact (Kd.R_reads' HO334.out).2.1); rintro e w121 ⟨v336, rfl, ho0, hb⟩; refine ⟨_, rfl, ?_⟩; have _ := aM (rB HO331.out hb); have _ := aM (rB HO334.out hb); have _ := aM (Kd.V_lower (Kd.V_mono (ok' := fun k_ => some k_ ≠ (.slice Ao119 t329.length co119 : Value).ownBlock ∧ some k_ ≠ (.slice Ao120 t332.length co120 : Value).ownBlock ∧ k_ ≠ gb323) ho0 (fun k_ hk_ => ⟨(Kd.fresh' (Kd.R_lt (rA HO331.out)) k_ hk_), (Kd.fresh' (Kd.R_lt (rA HO334.out)) k_ hk_), (Kd.freshB (g := gb323) (o := .cells #[.int .i64 a0_0, .int .i64 a0_1, .int .i64 a0_2, .int .i64 a0_3, .slice A0_4 l0_4.length c0_4, .slice A0_5 l0_5.length c0_5] 25 (0, 0)) (kA BK323.out) k_ hk_)⟩)) (below_size (bS HB.out))); have _ := aM (kB BK323.out hb); have _ := aM (below_step (bS HB.out) hb); clear HO331 HO334 BK323 HB; rename_i HO331 HO334 HO337 BK323 HB; (try clear hb); (try clear ho0); obtain ⟨hcz122_0, hfz122_0, hcz122_1, hfz122_1, hcz122_2, hfz122_2, hcz122_3, hfz122_3, hcz122_4, hfz122_4, hcz122_5, hfz122_5⟩ := bk6 BK323.out) | ((with_reducible refine gate_callee (f := 9) rfl ?_); refine gL (some 20) rfl rfl Try.func9 (by kernel_rfl) rfl #[.agg #[.int .i64 a0_0, .int .i64 a0_1, .int .i64 a0_2, .int .i64 a0_3, .slice A0_4 l0_4.length c0_4, .slice A0_5 l0_5.length c0_5]] rfl ?_; (with_reducible refine (laws_toResp.calls k a0_0 a0_1 a0_2 a0_3 _ _ l0_4 _ _ l0_5 t338 t339 t340 t341 t342 t345 _ ?side1 ?side2 ?side3 ?side4 A9.out).mono ?_); (case side1 => exact cB HR0_4.out HB.out); (case side2 => exact HC0_4.out); (case side3 => exact cB HR0_5.out HB.out); (case side4 => exact HC0_5.out); rintro e w123 ⟨v343, v346, rfl, ho0, ho1, hb⟩; refine ⟨_, rfl, ?_⟩; have _ := aM (Kd.R_elder' (rA HO331.out) (Kd.R_base ho0) hb); have _ := aM (Kd.R_elder' (rA HO334.out) (Kd.R_base ho1) hb); have _ := aM (Kd.V_mono (Kd.V_told (Kd.V_told (Kd.V_old (by (with_reducible repeat (first | apply Kd.V_alloc | apply Kd.V_drewN | apply Kd.V_drew)); exact HO337.out) hb) (Kd.R_base ho0)) (Kd.R_base ho1)) (fun _ h_ => by first | exact h_.1 | (have h2_ := h_.1; simp only [ne_eq] at h2_ ⊢; simp [h2_]))); have _ := aM (Kd.R_lower (Kd.R_new' ho0 (Kd.R_lt (rA HO331.out))) (below_size (bS HB.out))); have _ := aM (Kd.R_lower (Kd.R_new' ho1 (Kd.R_lt (rA HO334.out))) (below_size (bS HB.out))); have _ := aM (kB BK323.out hb); have _ := aM (below_step (bS HB.out) hb); clear HO331 HO334 HO337 BK323 HB; rename_i HO331 HO334 HO337 HO344 HO347 BK323 HB; (try clear hb); (try clear ho0); (try clear ho1)) | ((with_reducible refine gate_dst (N := 5) rfl ?_); refine box_event ?hg (N := 5) ?hd (cs := #[.int .i64 0, .int .i64 0, .int .i64 0, .int .i64 0, .slice none 0 0, .slice none 0 0]) (t := 29) ?hr ?_; (case hd => rfl); (case hg => rfl); (case hr => first | (go_simp; done) | (go_simp; rfl)); intro gb348 hg w124 hbox hb; have _ := aM (rB HO331.out hb); have _ := aM (rB HO334.out hb); have _ := aM (Kd.V_below (Kd.V_elderB (by (with_reducible repeat (first | apply Kd.V_alloc | apply Kd.V_drewN | apply Kd.V_drew)); exact HO337.out) gb348 (Nat.le_of_eq hg.symm)) hb); have _ := aM (rB HO344.out hb); have _ := aM (rB HO347.out hb); have _ := aM (kB BK323.out hb); have _ := aM (below_step (bS HB.out) hb); have _ := aM (hbox); have _ := aM (leG hg (bS HB.out)); have _ := aM (leG hg (bS HB.out)); have _ := aM (neL hg (kA BK323.out)); have _ := aM (neG hg (kA BK323.out)); clear HO331 HO334 HO337 HO344 HO347 BK323 HB; rename_i HO331 HO334 HO337 HO344 HO347 BK323 HB BK348 GW348 GE348 NB323_348 NB348_323; clear hb hbox hg; have hnb125 := NB348_323.out; have hnc125 := NB323_348.out; obtain ⟨hcz126_0, hfz126_0, hcz126_1, hfz126_1, hcz126_2, hfz126_2, hcz126_3, hfz126_3, hcz126_4, hfz126_4, hcz126_5, hfz126_5⟩ := bk6 BK348.out; obtain ⟨Ao127, co127, eo127⟩ := Kd.R_slice HO344.out; subst eo127; obtain ⟨Ao128, co128, eo128⟩ := Kd.R_slice HO347.out; subst eo128) | ((with_reducible refine gate_callee (f := 10) rfl ?_); refine gL (some 22) rfl rfl Try.func10 (by kernel_rfl) rfl #[.agg #[.int .i64 t338, .int .i64 t339, .int .i64 t340, .int .i64 t341, .slice Ao127 t342.length co127, .slice Ao128 t345.length co128]] rfl ?_; (with_reducible refine (impl_PutResp.calls k t338 t339 t340 t341 _ _ t342 _ _ t345 t349 _ ?side1 ?side2 ?side3 ?side4 A10.out).mono ?_); (case side1 => exact (Kd.R_reads' (rF6 HO344.out BK348.out)).2.2); (case side2 => exact (Kd.R_reads' HO344.out).2.1); (case side3 => exact (Kd.R_reads' (rF6 HO347.out BK348.out)).2.2); (case side4 => exact (Kd.R_reads' HO347.out).2.1); rintro e w129 ⟨v350, rfl, ho0, hb⟩; refine ⟨_, rfl, ?_⟩; have _ := aM (Kd.R_below (rF6 HO331.out BK348.out) hb); have _ := aM (Kd.R_below (rF6 HO334.out BK348.out) hb); have _ := aM (Kd.V_elder' (by (with_reducible repeat (first | apply Kd.V_alloc | apply Kd.V_drewN | apply Kd.V_drew)); exact (Kd.V_mono (Kd.V_far (p := ⟨gb348, 5, none⟩) (Kd.V_far (p := ⟨gb348, 4, none⟩) (Kd.V_far (p := ⟨gb348, 3, none⟩) (Kd.V_far (p := ⟨gb348, 2, none⟩) (Kd.V_far (p := ⟨gb348, 1, none⟩) (Kd.V_far (p := ⟨gb348, 0, none⟩) (Kd.V_mono HO337.out (fun k_ hk => (⟨hk, hk.2⟩ : _ ∧ k_ ≠ gb348))) (fun _ hk => hk.2) (.int .i64 t338)) (fun _ hk => hk.2) (.int .i64 t339)) (fun _ hk => hk.2) (.int .i64 t340)) (fun _ hk => hk.2) (.int .i64 t341)) (fun _ hk => hk.2) (.slice Ao127 t342.length co127)) (fun _ hk => hk.2) (.slice Ao128 t345.length co128)) (fun _ h_ => by first | exact h_.1 | (have h2_ := h_.1; simp only [ne_eq] at h2_ ⊢; simp [h2_])))) (Kd.R_base ho0) hb); have _ := aM (Kd.R_below (rF6 HO344.out BK348.out) hb); have _ := aM (Kd.R_below (rF6 HO347.out BK348.out) hb); have _ := aM (Kd.R_lower ho0 (below_size (bS HB.out))); have _ := aM (blk_below (kF6 BK323.out NB323_348.out) hb); have _ := aM (blk_below (kP6 BK348.out) hb); have _ := aM (below_step (bS HB.out) hb); clear HO331 HO334 HO337 HO344 HO347 BK323 BK348 HB; rename_i HO331 HO334 HO337 HO344 HO347 HO351 BK323 BK348 HB; (try clear hb); (try clear hk); (try clear ho0); obtain ⟨Ao130, co130, eo130⟩ := Kd.R_slice HO351.out; subst eo130; obtain ⟨Ao131, co131, eo131⟩ := Kd.V_slice HO337.out; subst eo131) | ((with_reducible refine gate_callee (f := 11) rfl ?_); refine gL (some 25) rfl rfl Try.func11 (by kernel_rfl) rfl #[.slice Ao130 t349.length co130, .slice Ao131 t335.length co131] rfl ?_; (with_reducible refine (laws_eqByteS.calls k _ _ t349 _ _ t335 false _ ?side1 ?side2 ?side3 ?side4 A11.out).mono ?_); (case side1 => exact cR HO351.out); (case side2 => exact (Kd.R_reads' HO351.out).2.1); (case side3 => repeat (first | exact (Kd.V_reads' HO337.out).2.2 | (with_reducible refine Kd.C_alloc ?_ _) | (with_reducible refine Kd.C_drewN ?_ _) | (with_reducible refine Kd.C_drew ?_))); (case side4 => exact (Kd.V_reads' HO337.out).2.1); rintro e w' ⟨rfl, ⟨nd, rfl⟩⟩; refine ⟨_, rfl, ?_⟩))
   go_ret
   exact ⟨by first | rfl | (simp [errW_none, errW_some] <;> rfl) | (simp [*, errW_none, errW_some] <;> rfl), bS HB.out⟩

end Go.Proofs.Ytfiplepbmennbaa.PFnExactPutResp
