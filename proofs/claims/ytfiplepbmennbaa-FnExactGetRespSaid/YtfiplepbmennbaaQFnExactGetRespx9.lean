/- Functions and contracts of the law FnExactGetResp: what the Go text computes, step by step. -/
import Derived.Test.YtfiplepbmennbaaL
import Derived.Test.YtfiplepbmennbaaQFnExactGetRespx0
import Derived.Test.YtfiplepbmennbaaQFnExactGetRespx1
import Derived.Test.YtfiplepbmennbaaQFnExactGetRespx2
import Derived.Test.YtfiplepbmennbaaQFnExactGetRespx7
import Derived.Test.YtfiplepbmennbaaQFnExactGetRespx8
namespace Go.Proofs.Ytfiplepbmennbaa.PFnExactGetResp
open Go.Proofs.Ytfiplepbmennbaa.K Go.Proofs.Ytfiplepbmennbaa.G Go.RowKit Go.Proofs.YtfiplepbmennbaaW.PrintWords Go.Proofs.YtfiplepbmennbaaW.PrintLast Go.Proofs.YtfiplepbmennbaaW.PrintMore
attribute [local go_sem] max2_int min2_int max_two min_two max_three min_three max_four min_four   -- for this text's walks alone
set_option linter.unusedVariables false
set_option linter.unusedSimpArgs false

/-! ### laws_FnExactGetResp: function 4 -/
mutual
def laws_FnExactGetResp.j0 : Nat → List Int → Int → List Int → Int → Bool → Int → Int → Int → Int → List Int → List Bool → Int → Int → Int → Int → List Int → List Bool → Option (Bool)
 | 0, _, _, _, _, _, _, _, _, _, _, _, _, _, _, _, _, _ => none
 | k + 1, x0, x4, x5, x7, x37, x300000, x300001, x300002, x300003, x300004, x300005, x315000, x315001, x315002, x315003, x315004, x315005 => if x37 = true then (some false) else ((laws_toByteS.f k x0).bind fun t316 => ((laws_eqByteS.f k x5 t316).bind fun t319 => (if t319 = true then ((laws_markByteS.f k x5 1).bind fun bt320 => (if bt320.1 < 0 then (laws_FnExactGetResp.j1 k x0 x4 true x300000 x300001 x300002 x300003 x300004 x300005 x315000 x315001 x315002 x315003 x315004 x315005) else ((laws_eqResp.f k x315000 x315001 x315002 x315003 x315004 x315005 x300000 x300001 x300002 x300003 x300004 x300005).bind fun t322 => (if t322 = true then (laws_FnExactGetResp.j1 k x0 x4 (x7 != x4) x300000 x300001 x300002 x300003 x300004 x300005 x315000 x315001 x315002 x315003 x315004 x315005) else (laws_FnExactGetResp.j1 k x0 x4 true x300000 x300001 x300002 x300003 x300004 x300005 x315000 x315001 x315002 x315003 x315004 x315005))))) else (some false))))
def laws_FnExactGetResp.j1 : Nat → List Int → Int → Bool → Int → Int → Int → Int → List Int → List Bool → Int → Int → Int → Int → List Int → List Bool → Option (Bool)
 | 0, _, _, _, _, _, _, _, _, _, _, _, _, _, _, _ => none
 | k + 1, x0, x4, x58, x300000, x300001, x300002, x300003, x300004, x300005, x315000, x315001, x315002, x315003, x315004, x315005 => if x58 = true then (some false) else ((laws_markResp.f k x315000 x315001 x315002 x315003 x315004 x315005 1).bind fun bt323 => ((laws_heldResp.f k x315000 x315001 x315002 x315003 bt323.2.1 bt323.2.2 1).bind fun t326 => (if t326 < 0 then (some false) else (if t326 = bt323.1 then ((laws_toByteS.f k x0).bind fun t327 => ((impl_GetResp.f k t327).bind fun bt330 => ((laws_eqResp.f k bt330.1 bt330.2.1 bt330.2.2.1 bt330.2.2.2.1 bt330.2.2.2.2.1 bt330.2.2.2.2.2.1 x300000 x300001 x300002 x300003 x300004 x300005).bind fun t342 => (if t342 = true then (laws_FnExactGetResp.j2 k bt323.1 (bt330.2.2.2.2.2.2 != x4) x315000 x315001 x315002 x315003 bt323.2.1 bt323.2.2) else (laws_FnExactGetResp.j2 k bt323.1 true x315000 x315001 x315002 x315003 bt323.2.1 bt323.2.2))))) else (some false)))))
def laws_FnExactGetResp.j2 : Nat → Int → Bool → Int → Int → Int → Int → List Int → List Bool → Option (Bool)
 | 0, _, _, _, _, _, _, _, _ => none
 | k + 1, x9, x84, x315000, x315001, x315002, x315003, x315004, x315005 => if x84 = true then (some false) else ((laws_heldResp.f k x315000 x315001 x315002 x315003 x315004 x315005 1).bind fun t343 => (if t343 < 0 then (some false) else (if t343 = x9 then (some true) else (some false))))
end
def laws_FnExactGetResp.f (k : Nat) (l0 : List Int) : Option (Bool) := if (l0.length : Int) > 1048576 then (some true) else ((laws_toByteS.f k l0).bind fun t285 => ((spec_GetResp.f k t285).bind fun bt288 => ((laws_toByteS.f k l0).bind fun t300 => ((impl_GetResp.f k t300).bind fun bt303 => ((laws_eqResp.f k bt303.1 bt303.2.1 bt303.2.2.1 bt303.2.2.2.1 bt303.2.2.2.2.1 bt303.2.2.2.2.2.1 bt288.1 bt288.2.1 bt288.2.2.1 bt288.2.2.2.1 bt288.2.2.2.2.1 bt288.2.2.2.2.2.1).bind fun t315 => (if t315 = true then (laws_FnExactGetResp.j0 k l0 bt288.2.2.2.2.2.2 t300 bt303.2.2.2.2.2.2 (bt303.2.2.2.2.2.2 != bt288.2.2.2.2.2.2) bt288.1 bt288.2.1 bt288.2.2.1 bt288.2.2.2.1 bt288.2.2.2.2.1 bt288.2.2.2.2.2.1 bt303.1 bt303.2.1 bt303.2.2.1 bt303.2.2.2.1 bt303.2.2.2.2.1 bt303.2.2.2.2.2.1) else (laws_FnExactGetResp.j0 k l0 bt288.2.2.2.2.2.2 t300 bt303.2.2.2.2.2.2 true bt288.1 bt288.2.1 bt288.2.2.1 bt288.2.2.2.1 bt288.2.2.2.2.1 bt288.2.2.2.2.2.1 bt303.1 bt303.2.1 bt303.2.2.1 bt303.2.2.2.1 bt303.2.2.2.2.1 bt303.2.2.2.2.2.1)))))))
theorem laws_FnExactGetResp.mono_l : ∀ k, (∀ y0 y1 y2 y3 y4 y5 y6 y7 y8 y9 y10 y11 y12 y13 y14 y15 y16, LeO (laws_FnExactGetResp.j0 k y0 y1 y2 y3 y4 y5 y6 y7 y8 y9 y10 y11 y12 y13 y14 y15 y16) (laws_FnExactGetResp.j0 (k + 1) y0 y1 y2 y3 y4 y5 y6 y7 y8 y9 y10 y11 y12 y13 y14 y15 y16)) ∧ (∀ y0 y1 y2 y3 y4 y5 y6 y7 y8 y9 y10 y11 y12 y13 y14, LeO (laws_FnExactGetResp.j1 k y0 y1 y2 y3 y4 y5 y6 y7 y8 y9 y10 y11 y12 y13 y14) (laws_FnExactGetResp.j1 (k + 1) y0 y1 y2 y3 y4 y5 y6 y7 y8 y9 y10 y11 y12 y13 y14)) ∧ (∀ y0 y1 y2 y3 y4 y5 y6 y7, LeO (laws_FnExactGetResp.j2 k y0 y1 y2 y3 y4 y5 y6 y7) (laws_FnExactGetResp.j2 (k + 1) y0 y1 y2 y3 y4 y5 y6 y7))
 | 0 => ⟨fun _ _ _ _ _ _ _ _ _ _ _ _ _ _ _ _ _ r h => by simp [laws_FnExactGetResp.j0] at h, fun _ _ _ _ _ _ _ _ _ _ _ _ _ _ _ r h => by simp [laws_FnExactGetResp.j1] at h, fun _ _ _ _ _ _ _ _ r h => by simp [laws_FnExactGetResp.j2] at h⟩
 | k + 1 => by
  obtain ⟨ih0, ih1, ih2⟩ := laws_FnExactGetResp.mono_l k
  refine ⟨?_, ?_, ?_⟩
  ·intro y0 y1 y2 y3 y4 y5 y6 y7 y8 y9 y10 y11 y12 y13 y14 y15 y16
   unfold laws_FnExactGetResp.j0
   repeat' first
   | (with_reducible exact ih0 _ _ _ _ _ _ _ _ _ _ _ _ _ _ _ _ _)
   | (with_reducible exact ih1 _ _ _ _ _ _ _ _ _ _ _ _ _ _ _)
   | (with_reducible exact ih2 _ _ _ _ _ _ _ _)
   | (with_reducible exact impl_GetResp.mono _ _)
   | (with_reducible exact laws_eqByteS.mono _ _ _)
   | (with_reducible exact laws_eqResp.mono _ _ _ _ _ _ _ _ _ _ _ _ _)
   | (with_reducible exact laws_heldResp.mono _ _ _ _ _ _ _ _)
   | (with_reducible exact laws_markByteS.mono _ _ _)
   | (with_reducible exact laws_markResp.mono _ _ _ _ _ _ _ _)
   | (with_reducible exact laws_toByteS.mono _ _)
   | (with_reducible exact spec_GetResp.mono _ _)
   | (with_reducible exact LeO.refl _)
   | (with_reducible exact LeO.none _)
   | (with_reducible refine LeO.ite ?_ ?_)
   | (with_reducible refine LeO.bind ?_ (fun _ => ?_))
   | exact ih0 _ _ _ _ _ _ _ _ _ _ _ _ _ _ _ _ _
   | exact ih1 _ _ _ _ _ _ _ _ _ _ _ _ _ _ _
   | exact ih2 _ _ _ _ _ _ _ _
   | exact impl_GetResp.mono _ _
   | exact laws_eqByteS.mono _ _ _
   | exact laws_eqResp.mono _ _ _ _ _ _ _ _ _ _ _ _ _
   | exact laws_heldResp.mono _ _ _ _ _ _ _ _
   | exact laws_markByteS.mono _ _ _
   | exact laws_markResp.mono _ _ _ _ _ _ _ _
   | exact laws_toByteS.mono _ _
   | exact spec_GetResp.mono _ _
   | exact LeO.none _
   | refine LeO.ite ?_ ?_
   | refine LeO.bind ?_ (fun _ => ?_)
  ·intro y0 y1 y2 y3 y4 y5 y6 y7 y8 y9 y10 y11 y12 y13 y14
   unfold laws_FnExactGetResp.j1
   repeat' first
   | (with_reducible exact ih0 _ _ _ _ _ _ _ _ _ _ _ _ _ _ _ _ _)
   | (with_reducible exact ih1 _ _ _ _ _ _ _ _ _ _ _ _ _ _ _)
   | (with_reducible exact ih2 _ _ _ _ _ _ _ _)
   | (with_reducible exact impl_GetResp.mono _ _)
   | (with_reducible exact laws_eqByteS.mono _ _ _)
   | (with_reducible exact laws_eqResp.mono _ _ _ _ _ _ _ _ _ _ _ _ _)
   | (with_reducible exact laws_heldResp.mono _ _ _ _ _ _ _ _)
   | (with_reducible exact laws_markByteS.mono _ _ _)
   | (with_reducible exact laws_markResp.mono _ _ _ _ _ _ _ _)
   | (with_reducible exact laws_toByteS.mono _ _)
   | (with_reducible exact spec_GetResp.mono _ _)
   | (with_reducible exact LeO.refl _)
   | (with_reducible exact LeO.none _)
   | (with_reducible refine LeO.ite ?_ ?_)
   | (with_reducible refine LeO.bind ?_ (fun _ => ?_))
   | exact ih0 _ _ _ _ _ _ _ _ _ _ _ _ _ _ _ _ _
   | exact ih1 _ _ _ _ _ _ _ _ _ _ _ _ _ _ _
   | exact ih2 _ _ _ _ _ _ _ _
   | exact impl_GetResp.mono _ _
   | exact laws_eqByteS.mono _ _ _
   | exact laws_eqResp.mono _ _ _ _ _ _ _ _ _ _ _ _ _
   | exact laws_heldResp.mono _ _ _ _ _ _ _ _
   | exact laws_markByteS.mono _ _ _
   | exact laws_markResp.mono _ _ _ _ _ _ _ _
   | exact laws_toByteS.mono _ _
   | exact spec_GetResp.mono _ _
   | exact LeO.none _
   | refine LeO.ite ?_ ?_
   | refine LeO.bind ?_ (fun _ => ?_)
  ·intro y0 y1 y2 y3 y4 y5 y6 y7
   unfold laws_FnExactGetResp.j2
   repeat' first
   | (with_reducible exact ih0 _ _ _ _ _ _ _ _ _ _ _ _ _ _ _ _ _)
   | (with_reducible exact ih1 _ _ _ _ _ _ _ _ _ _ _ _ _ _ _)
   | (with_reducible exact ih2 _ _ _ _ _ _ _ _)
   | (with_reducible exact impl_GetResp.mono _ _)
   | (with_reducible exact laws_eqByteS.mono _ _ _)
   | (with_reducible exact laws_eqResp.mono _ _ _ _ _ _ _ _ _ _ _ _ _)
   | (with_reducible exact laws_heldResp.mono _ _ _ _ _ _ _ _)
   | (with_reducible exact laws_markByteS.mono _ _ _)
   | (with_reducible exact laws_markResp.mono _ _ _ _ _ _ _ _)
   | (with_reducible exact laws_toByteS.mono _ _)
   | (with_reducible exact spec_GetResp.mono _ _)
   | (with_reducible exact LeO.refl _)
   | (with_reducible exact LeO.none _)
   | (with_reducible refine LeO.ite ?_ ?_)
   | (with_reducible refine LeO.bind ?_ (fun _ => ?_))
   | exact ih0 _ _ _ _ _ _ _ _ _ _ _ _ _ _ _ _ _
   | exact ih1 _ _ _ _ _ _ _ _ _ _ _ _ _ _ _
   | exact ih2 _ _ _ _ _ _ _ _
   | exact impl_GetResp.mono _ _
   | exact laws_eqByteS.mono _ _ _
   | exact laws_eqResp.mono _ _ _ _ _ _ _ _ _ _ _ _ _
   | exact laws_heldResp.mono _ _ _ _ _ _ _ _
   | exact laws_markByteS.mono _ _ _
   | exact laws_markResp.mono _ _ _ _ _ _ _ _
   | exact laws_toByteS.mono _ _
   | exact spec_GetResp.mono _ _
   | exact LeO.none _
   | refine LeO.ite ?_ ?_
   | refine LeO.bind ?_ (fun _ => ?_)
theorem laws_FnExactGetResp.mono : ∀ a0 k, LeO (laws_FnExactGetResp.f k a0) (laws_FnExactGetResp.f (k + 1) a0) := by
 intro a0 k
 obtain ⟨ih0, ih1, ih2⟩ := laws_FnExactGetResp.mono_l k
 unfold laws_FnExactGetResp.f
 repeat' first
   | (with_reducible exact ih0 _ _ _ _ _ _ _ _ _ _ _ _ _ _ _ _ _)
   | (with_reducible exact ih1 _ _ _ _ _ _ _ _ _ _ _ _ _ _ _)
   | (with_reducible exact ih2 _ _ _ _ _ _ _ _)
   | (with_reducible exact impl_GetResp.mono _ _)
   | (with_reducible exact laws_eqByteS.mono _ _ _)
   | (with_reducible exact laws_eqResp.mono _ _ _ _ _ _ _ _ _ _ _ _ _)
   | (with_reducible exact laws_heldResp.mono _ _ _ _ _ _ _ _)
   | (with_reducible exact laws_markByteS.mono _ _ _)
   | (with_reducible exact laws_markResp.mono _ _ _ _ _ _ _ _)
   | (with_reducible exact laws_toByteS.mono _ _)
   | (with_reducible exact spec_GetResp.mono _ _)
   | (with_reducible exact LeO.refl _)
   | (with_reducible exact LeO.none _)
   | (with_reducible refine LeO.ite ?_ ?_)
   | (with_reducible refine LeO.bind ?_ (fun _ => ?_))
   | exact ih0 _ _ _ _ _ _ _ _ _ _ _ _ _ _ _ _ _
   | exact ih1 _ _ _ _ _ _ _ _ _ _ _ _ _ _ _
   | exact ih2 _ _ _ _ _ _ _ _
   | exact impl_GetResp.mono _ _
   | exact laws_eqByteS.mono _ _ _
   | exact laws_eqResp.mono _ _ _ _ _ _ _ _ _ _ _ _ _
   | exact laws_heldResp.mono _ _ _ _ _ _ _ _
   | exact laws_markByteS.mono _ _ _
   | exact laws_markResp.mono _ _ _ _ _ _ _ _
   | exact laws_toByteS.mono _ _
   | exact spec_GetResp.mono _ _
   | exact LeO.none _
   | refine LeO.ite ?_ ?_
   | refine LeO.bind ?_ (fun _ => ?_)
set_option maxHeartbeats 8000000 in
set_option maxRecDepth 100000 in
theorem laws_FnExactGetResp.calls (k : Nat) (A0 : Option Addr) (c0 : Nat) (l0 : List Int) (r : Bool) (w : World) (hr0 : Kd.C (Kd.int .u8) w A0 l0.length l0) (hc0 : l0.length ≤ c0) (h : laws_FnExactGetResp.f k l0 = some r) :
  Calls Try.prog 4 #[.slice A0 l0.length c0] w fun e w' => e = .returned (.bool r) ∧ Below w.heap.size w w' := by
 have hu29 := Try.underlying29
 have HR0 := aM hr0
 have HC0 := aM hc0
 clear hr0 hc0
 have HB := aM (Below.refl w.heap.size w)
 have H : (if (l0.length : Int) > 1048576 then (some true) else ((laws_toByteS.f k l0).bind fun t285 => ((spec_GetResp.f k t285).bind fun bt288 => ((laws_toByteS.f k l0).bind fun t300 => ((impl_GetResp.f k t300).bind fun bt303 => ((laws_eqResp.f k bt303.1 bt303.2.1 bt303.2.2.1 bt303.2.2.2.1 bt303.2.2.2.2.1 bt303.2.2.2.2.2.1 bt288.1 bt288.2.1 bt288.2.2.1 bt288.2.2.2.1 bt288.2.2.2.2.1 bt288.2.2.2.2.2.1).bind fun t315 => (if t315 = true then (laws_FnExactGetResp.j0 k l0 bt288.2.2.2.2.2.2 t300 bt303.2.2.2.2.2.2 (bt303.2.2.2.2.2.2 != bt288.2.2.2.2.2.2) bt288.1 bt288.2.1 bt288.2.2.1 bt288.2.2.2.1 bt288.2.2.2.2.1 bt288.2.2.2.2.2.1 bt303.1 bt303.2.1 bt303.2.2.1 bt303.2.2.2.1 bt303.2.2.2.2.1 bt303.2.2.2.2.2.1) else (laws_FnExactGetResp.j0 k l0 bt288.2.2.2.2.2.2 t300 bt303.2.2.2.2.2.2 true bt288.1 bt288.2.1 bt288.2.2.1 bt288.2.2.2.1 bt288.2.2.2.2.1 bt288.2.2.2.2.2.1 bt303.1 bt303.2.1 bt303.2.2.1 bt303.2.2.2.1 bt303.2.2.2.2.1 bt303.2.2.2.2.2.1)))))))) = some r := h
 clear h
 by_cases c2 : (l0.length : Int) > 1048576
 ·rw [if_pos c2] at H
  have c2b0 : decide (1048576 < (l0.length : Int)) = true := decide_eq_true c2
  have c2b1 : decide (1048576 < l0.length) = true := decide_eq_true (by omega)
  clear c2
  obtain rfl := Option.some.inj H
  go_enter Try.func4, Try.ntmps4
  go_wp2
  go_ret
  exact ⟨by first | rfl | (simp [errW_none, errW_some] <;> rfl) | (simp [*, errW_none, errW_some] <;> rfl), bS HB.out⟩
 ·rw [if_neg c2] at H
  have c2b0 : decide (1048576 < (l0.length : Int)) = false := decide_eq_false c2
  have c2b1 : decide (1048576 < l0.length) = false := decide_eq_false (by omega)
  clear c2
  replace H := Option.bind_eq_some_iff.mp H
  obtain ⟨t285, A30, H⟩ := H
  replace H : ((spec_GetResp.f k t285).bind fun bt288 => ((laws_toByteS.f k l0).bind fun t300 => ((impl_GetResp.f k t300).bind fun bt303 => ((laws_eqResp.f k bt303.1 bt303.2.1 bt303.2.2.1 bt303.2.2.2.1 bt303.2.2.2.2.1 bt303.2.2.2.2.2.1 bt288.1 bt288.2.1 bt288.2.2.1 bt288.2.2.2.1 bt288.2.2.2.2.1 bt288.2.2.2.2.2.1).bind fun t315 => (if t315 = true then (laws_FnExactGetResp.j0 k l0 bt288.2.2.2.2.2.2 t300 bt303.2.2.2.2.2.2 (bt303.2.2.2.2.2.2 != bt288.2.2.2.2.2.2) bt288.1 bt288.2.1 bt288.2.2.1 bt288.2.2.2.1 bt288.2.2.2.2.1 bt288.2.2.2.2.2.1 bt303.1 bt303.2.1 bt303.2.2.1 bt303.2.2.2.1 bt303.2.2.2.2.1 bt303.2.2.2.2.2.1) else (laws_FnExactGetResp.j0 k l0 bt288.2.2.2.2.2.2 t300 bt303.2.2.2.2.2.2 true bt288.1 bt288.2.1 bt288.2.2.1 bt288.2.2.2.1 bt288.2.2.2.2.1 bt288.2.2.2.2.2.1 bt303.1 bt303.2.1 bt303.2.2.1 bt303.2.2.2.1 bt303.2.2.2.2.1 bt303.2.2.2.2.2.1)))))) = some r := H
  have A3 := aM A30
  clear A30
  replace H := Option.bind_eq_some_iff.mp H
  obtain ⟨⟨t288, t289, t290, t291, t292, t295, t298⟩, A40, H⟩ := H
  replace H : ((laws_toByteS.f k l0).bind fun t300 => ((impl_GetResp.f k t300).bind fun bt303 => ((laws_eqResp.f k bt303.1 bt303.2.1 bt303.2.2.1 bt303.2.2.2.1 bt303.2.2.2.2.1 bt303.2.2.2.2.2.1 t288 t289 t290 t291 t292 t295).bind fun t315 => (if t315 = true then (laws_FnExactGetResp.j0 k l0 t298 t300 bt303.2.2.2.2.2.2 (bt303.2.2.2.2.2.2 != t298) t288 t289 t290 t291 t292 t295 bt303.1 bt303.2.1 bt303.2.2.1 bt303.2.2.2.1 bt303.2.2.2.2.1 bt303.2.2.2.2.2.1) else (laws_FnExactGetResp.j0 k l0 t298 t300 bt303.2.2.2.2.2.2 true t288 t289 t290 t291 t292 t295 bt303.1 bt303.2.1 bt303.2.2.1 bt303.2.2.2.1 bt303.2.2.2.2.1 bt303.2.2.2.2.2.1))))) = some r := H
  have A4 := aM A40
  clear A40
  replace H := Option.bind_eq_some_iff.mp H
  obtain ⟨t300, A50, H⟩ := H
  replace H : ((impl_GetResp.f k t300).bind fun bt303 => ((laws_eqResp.f k bt303.1 bt303.2.1 bt303.2.2.1 bt303.2.2.2.1 bt303.2.2.2.2.1 bt303.2.2.2.2.2.1 t288 t289 t290 t291 t292 t295).bind fun t315 => (if t315 = true then (laws_FnExactGetResp.j0 k l0 t298 t300 bt303.2.2.2.2.2.2 (bt303.2.2.2.2.2.2 != t298) t288 t289 t290 t291 t292 t295 bt303.1 bt303.2.1 bt303.2.2.1 bt303.2.2.2.1 bt303.2.2.2.2.1 bt303.2.2.2.2.2.1) else (laws_FnExactGetResp.j0 k l0 t298 t300 bt303.2.2.2.2.2.2 true t288 t289 t290 t291 t292 t295 bt303.1 bt303.2.1 bt303.2.2.1 bt303.2.2.2.1 bt303.2.2.2.2.1 bt303.2.2.2.2.2.1)))) = some r := H
  have A5 := aM A50
  clear A50
  replace H := Option.bind_eq_some_iff.mp H
  obtain ⟨⟨t303, t304, t305, t306, t307, t310, t313⟩, A60, H⟩ := H
  replace H : ((laws_eqResp.f k t303 t304 t305 t306 t307 t310 t288 t289 t290 t291 t292 t295).bind fun t315 => (if t315 = true then (laws_FnExactGetResp.j0 k l0 t298 t300 t313 (t313 != t298) t288 t289 t290 t291 t292 t295 t303 t304 t305 t306 t307 t310) else (laws_FnExactGetResp.j0 k l0 t298 t300 t313 true t288 t289 t290 t291 t292 t295 t303 t304 t305 t306 t307 t310))) = some r := H
  have A6 := aM A60
  clear A60
  have HC7 := aM H
  clear H
  go_enter Try.func4, Try.ntmps4
  go_upto_region 6 with (first | ((with_reducible refine gate_callee (f := 17) rfl ?_); refine gL (some 18) rfl rfl Try.func17 (by kernel_rfl) rfl #[.slice A0 l0.length c0] rfl ?_; (with_reducible refine (laws_toByteS.calls k _ _ l0 t285 _ ?side1 ?side2 A3.out).mono ?_); (case side1 => repeat (first | exact HR0.out | (with_reducible refine Kd.C_alloc ?_ _) | (with_reducible refine Kd.C_drewN ?_ _) | (with_reducible refine Kd.C_drew ?_))); (case side2 => exact HC0.out); rintro e w8 ⟨v286, rfl, ho0, hb⟩; refine ⟨_, rfl, ?_⟩; have _ := aM (Kd.R_lower ho0 (below_size (bS HB.out))); have _ := aM (below_step (bS HB.out) hb); clear HB; rename_i HO287 HB; (try clear hb); (try clear ho0); obtain ⟨Ao9, co9, eo9⟩ := Kd.R_slice HO287.out; subst eo9) | ((with_reducible refine gate_callee (f := 16) rfl ?_); refine gL (some 19) rfl rfl Try.func16 (by kernel_rfl) rfl #[.slice Ao9 t285.length co9] rfl ?_; (with_reducible refine (spec_GetResp.calls k _ _ t285 t288 t289 t290 t291 t292 t295 t298 _ ?side1 ?side2 A4.out).mono ?_); (case side1 => exact cR HO287.out); (case side2 => exact (Kd.R_reads' HO287.out).2.1); rintro e w10 ⟨v293, v296, rfl, ho0, ho1, hb⟩; refine ⟨_, rfl, ?_⟩; have _ := aM (rB HO287.out hb); have _ := aM (Kd.R_lower ho0 (below_size (bS HB.out))); have _ := aM (Kd.R_lower ho1 (below_size (bS HB.out))); have _ := aM (below_step (bS HB.out) hb); clear HO287 HB; rename_i HO287 HO294 HO297 HB; (try clear hb); (try clear ho0); (try clear ho1)) | ((with_reducible refine gate_dst (N := 3) rfl ?_); refine box_event ?hg (N := 3) ?hd (cs := #[.int .i64 0, .int .i64 0, .int .i64 0, .int .i64 0, .slice none 0 0, .slice none 0 0]) (t := 29) ?hr ?_; (case hd => rfl); (case hg => rfl); (case hr => first | (go_simp; done) | (go_simp; rfl)); intro gb299 hg w11 hbox hb; have _ := aM (rB HO287.out hb); have _ := aM (rB HO294.out hb); have _ := aM (rB HO297.out hb); have _ := aM (below_step (bS HB.out) hb); have _ := aM (hbox); have _ := aM (leG hg (bS HB.out)); have _ := aM (leG hg (bS HB.out)); clear HO287 HO294 HO297 HB; rename_i HO287 HO294 HO297 HB BK299 GW299 GE299; clear hb hbox hg; obtain ⟨hcz12_0, hfz12_0, hcz12_1, hfz12_1, hcz12_2, hfz12_2, hcz12_3, hfz12_3, hcz12_4, hfz12_4, hcz12_5, hfz12_5⟩ := bk6 BK299.out; obtain ⟨Ao13, co13, eo13⟩ := Kd.R_slice HO294.out; subst eo13; obtain ⟨Ao14, co14, eo14⟩ := Kd.R_slice HO297.out; subst eo14) | ((with_reducible refine gate_callee (f := 17) rfl ?_); refine gL (some 23) rfl rfl Try.func17 (by kernel_rfl) rfl #[.slice A0 l0.length c0] rfl ?_; (with_reducible refine (laws_toByteS.calls k _ _ l0 t300 _ ?side1 ?side2 A5.out).mono ?_); (case side1 => exact Kd.C_below HR0.out (bS HB.out)); (case side2 => exact HC0.out); rintro e w15 ⟨v301, rfl, ho0, hb⟩; refine ⟨_, rfl, ?_⟩; have _ := aM (Kd.R_elder' (rF6 HO287.out BK299.out) (Kd.R_base ho0) hb); have _ := aM (Kd.R_below (rF6 HO294.out BK299.out) hb); have _ := aM (Kd.R_below (rF6 HO297.out BK299.out) hb); have _ := aM (Kd.R_lower (Kd.R_new' ho0 (Kd.R_lt (rF6 HO287.out BK299.out))) (below_size (bS HB.out))); have _ := aM (blk_below (kP6 BK299.out) hb); have _ := aM (below_step (bS HB.out) hb); clear HO287 HO294 HO297 BK299 HB; rename_i HO287 HO294 HO297 HO302 BK299 HB; (try clear hb); (try clear ho0); obtain ⟨Ao16, co16, eo16⟩ := Kd.R_slice HO302.out; subst eo16) | ((with_reducible refine gate_callee (f := 18) rfl ?_); refine gL (some 26) rfl rfl Try.func18 (by kernel_rfl) rfl #[.slice Ao16 t300.length co16] rfl ?_; (with_reducible refine (impl_GetResp.calls k _ _ t300 t303 t304 t305 t306 t307 t310 t313 _ ?side1 ?side2 A6.out).mono ?_); (case side1 => exact cR HO302.out); (case side2 => exact (Kd.R_reads' HO302.out).2.1); rintro e w17 ⟨v308, v311, rfl, ho0, ho1, hb⟩; refine ⟨_, rfl, ?_⟩; have _ := aM (rB HO287.out hb); have _ := aM (Kd.R_elder' (rA HO294.out) (Kd.R_base ho0) hb); have _ := aM (Kd.R_elder' (rA HO297.out) (Kd.R_base ho1) hb); have _ := aM (rB HO302.out hb); have _ := aM (Kd.R_lower (Kd.R_new' ho0 (Kd.R_lt (rA HO294.out))) (below_size (bS HB.out))); have _ := aM (Kd.R_lower (Kd.R_new' ho1 (Kd.R_lt (rA HO297.out))) (below_size (bS HB.out))); have _ := aM (kB BK299.out hb); have _ := aM (below_step (bS HB.out) hb); clear HO287 HO294 HO297 HO302 BK299 HB; rename_i HO287 HO294 HO297 HO302 HO309 HO312 BK299 HB; (try clear hb); (try clear ho0); (try clear ho1)) | ((with_reducible refine gate_dst (N := 6) rfl ?_); refine box_event ?hg (N := 6) ?hd (cs := #[.int .i64 0, .int .i64 0, .int .i64 0, .int .i64 0, .slice none 0 0, .slice none 0 0]) (t := 29) ?hr ?_; (case hd => rfl); (case hg => rfl); (case hr => first | (go_simp; done) | (go_simp; rfl)); intro gb314 hg w18 hbox hb; have _ := aM (rB HO287.out hb); have _ := aM (rB HO294.out hb); have _ := aM (rB HO297.out hb); have _ := aM (rB HO302.out hb); have _ := aM (rB HO309.out hb); have _ := aM (rB HO312.out hb); have _ := aM (kB BK299.out hb); have _ := aM (below_step (bS HB.out) hb); have _ := aM (hbox); have _ := aM (leG hg (bS HB.out)); have _ := aM (leG hg (bS HB.out)); have _ := aM (neL hg (kA BK299.out)); have _ := aM (neG hg (kA BK299.out)); clear HO287 HO294 HO297 HO302 HO309 HO312 BK299 HB; rename_i HO287 HO294 HO297 HO302 HO309 HO312 BK299 HB BK314 GW314 GE314 NB299_314 NB314_299; clear hb hbox hg; have hnb19 := NB314_299.out; have hnc19 := NB299_314.out; obtain ⟨hcz20_0, hfz20_0, hcz20_1, hfz20_1, hcz20_2, hfz20_2, hcz20_3, hfz20_3, hcz20_4, hfz20_4, hcz20_5, hfz20_5⟩ := bk6 BK314.out; obtain ⟨Ao21, co21, eo21⟩ := Kd.R_slice HO309.out; subst eo21; obtain ⟨Ao22, co22, eo22⟩ := Kd.R_slice HO312.out; subst eo22))
  (try simp only [Act.put, List.setIfInBounds_toArray, List.set_cons_zero, List.set_cons_succ])
  go_cut [37] (fun v37 wc => ∃ (kq : Nat) (x37_6 : Bool), v37 = .bool x37_6 ∧ Aside0 (laws_FnExactGetResp.j0 kq l0 t298 t300 t313 x37_6 t288 t289 t290 t291 t292 t295 t303 t304 t305 t306 t307 t310 = some r) ∧ Aside0 (kq ≤ k) ∧ Aside0 (Kd.R (Kd.int .u8) 5 wc w.heap.size (fun _ => True) (.slice Ao16 t300.length co16) t300) ∧ Aside0 (Kd.R (Kd.int .i64) 3 wc w.heap.size (fun k_ => some k_ ≠ ((.slice Ao21 t307.length co21) : Value).ownBlock) (.slice Ao13 t292.length co13) t292) ∧ Aside0 (Kd.R Kd.bool 4 wc w.heap.size (fun k_ => some k_ ≠ ((.slice Ao22 t310.length co22) : Value).ownBlock) (.slice Ao14 t295.length co14) t295) ∧ Aside0 (Kd.R (Kd.int .i64) 3 wc w.heap.size (fun k_ => some k_ ≠ ((.slice Ao13 t292.length co13) : Value).ownBlock) (.slice Ao21 t307.length co21) t307) ∧ Aside0 (Kd.R Kd.bool 4 wc w.heap.size (fun k_ => some k_ ≠ ((.slice Ao14 t295.length co14) : Value).ownBlock) (.slice Ao22 t310.length co22) t310) ∧ Aside0 (wc.heap[gb299]? = some (.cells #[.int .i64 t288, .int .i64 t289, .int .i64 t290, .int .i64 t291, (.slice Ao13 t292.length co13), (.slice Ao14 t295.length co14)] 29 (0, 0))) ∧ Aside0 (wc.heap[gb314]? = some (.cells #[.int .i64 t303, .int .i64 t304, .int .i64 t305, .int .i64 t306, (.slice Ao21 t307.length co21), (.slice Ao22 t310.length co22)] 29 (0, 0))) ∧ Aside0 (Below w.heap.size w wc))
  case first =>
   have H := HC7.out
   clear HC7
   replace H := Option.bind_eq_some_iff.mp H
   obtain ⟨t315, A230, H⟩ := H
   replace H : (if t315 = true then (laws_FnExactGetResp.j0 k l0 t298 t300 t313 (t313 != t298) t288 t289 t290 t291 t292 t295 t303 t304 t305 t306 t307 t310) else (laws_FnExactGetResp.j0 k l0 t298 t300 t313 true t288 t289 t290 t291 t292 t295 t303 t304 t305 t306 t307 t310)) = some r := H
   have A23 := aM A230
   clear A230
   by_cases c24 : t315 = true
   ·subst c24
    have H1 : (laws_FnExactGetResp.j0 k l0 t298 t300 t313 (t313 != t298) t288 t289 t290 t291 t292 t295 t303 t304 t305 t306 t307 t310) = some r := by rw [if_pos rfl] at H; exact H
    clear H
    have H := H1
    clear H1
    have H' := aM H
    clear H
    have hnb25 := NB314_299.out
    have hnc25 := NB299_314.out
    obtain ⟨hcz26_0, hfz26_0, hcz26_1, hfz26_1, hcz26_2, hfz26_2, hcz26_3, hfz26_3, hcz26_4, hfz26_4, hcz26_5, hfz26_5⟩ := bk6 BK314.out
    obtain ⟨hcz27_0, hfz27_0, hcz27_1, hfz27_1, hcz27_2, hfz27_2, hcz27_3, hfz27_3, hcz27_4, hfz27_4, hcz27_5, hfz27_5⟩ := bk6 BK299.out
    go_wp2_with (first | ((with_reducible refine gate_callee (f := 12) rfl ?_); refine gL (some 31) rfl rfl Try.func12 (by kernel_rfl) rfl #[.agg #[.int .i64 t303, .int .i64 t304, .int .i64 t305, .int .i64 t306, .slice Ao21 t307.length co21, .slice Ao22 t310.length co22], .agg #[.int .i64 t288, .int .i64 t289, .int .i64 t290, .int .i64 t291, .slice Ao13 t292.length co13, .slice Ao14 t295.length co14]] rfl ?_; (with_reducible refine (laws_eqResp.calls k t303 t304 t305 t306 _ _ t307 _ _ t310 t288 t289 t290 t291 _ _ t292 _ _ t295 true _ ?side1 ?side2 ?side3 ?side4 ?side5 ?side6 ?side7 ?side8 A23.out).mono ?_); (case side1 => exact (Kd.R_reads' (rF6 HO309.out BK314.out)).2.2); (case side2 => exact (Kd.R_reads' HO309.out).2.1); (case side3 => exact (Kd.R_reads' (rF6 HO312.out BK314.out)).2.2); (case side4 => exact (Kd.R_reads' HO312.out).2.1); (case side5 => exact (Kd.R_reads' (rF6 HO294.out BK314.out)).2.2); (case side6 => exact (Kd.R_reads' HO294.out).2.1); (case side7 => exact (Kd.R_reads' (rF6 HO297.out BK314.out)).2.2); (case side8 => exact (Kd.R_reads' HO297.out).2.1); rintro e w28 ⟨rfl, hb⟩; refine ⟨_, rfl, ?_⟩; have _ := aM (Kd.R_below (rF6 HO287.out BK314.out) hb); have _ := aM (Kd.R_below (rF6 HO294.out BK314.out) hb); have _ := aM (Kd.R_below (rF6 HO297.out BK314.out) hb); have _ := aM (Kd.R_below (rF6 HO302.out BK314.out) hb); have _ := aM (Kd.R_below (rF6 HO309.out BK314.out) hb); have _ := aM (Kd.R_below (rF6 HO312.out BK314.out) hb); have _ := aM (blk_below (kF6 BK299.out NB299_314.out) hb); have _ := aM (blk_below (kP6 BK314.out) hb); have _ := aM (below_step (bS HB.out) hb); clear HO287 HO294 HO297 HO302 HO309 HO312 BK299 BK314 HB; rename_i HO287 HO294 HO297 HO302 HO309 HO312 BK299 BK314 HB; (try clear hb)))
    go_meet
    case rel => exact ⟨_, ((t313 != t298)), (by first | rfl | (simp; done) | (simp [*]; done)), H', ⟨by first | omega | exact Nat.le_refl _⟩, ⟨by (with_reducible repeat (first | apply Kd.R_alloc | apply Kd.R_drewN | apply Kd.R_drew)); exact Kd.R_mono HO302.out (fun _ hk => trivial)⟩, ⟨by (with_reducible repeat (first | apply Kd.R_alloc | apply Kd.R_drewN | apply Kd.R_drew)); exact Kd.R_mono HO294.out (fun _ hk => hk.2)⟩, ⟨by (with_reducible repeat (first | apply Kd.R_alloc | apply Kd.R_drewN | apply Kd.R_drew)); exact Kd.R_mono HO297.out (fun _ hk => hk.2)⟩, ⟨by (with_reducible repeat (first | apply Kd.R_alloc | apply Kd.R_drewN | apply Kd.R_drew)); exact Kd.R_mono HO309.out (fun _ hk => hk.2)⟩, ⟨by (with_reducible repeat (first | apply Kd.R_alloc | apply Kd.R_drewN | apply Kd.R_drew)); exact Kd.R_mono HO312.out (fun _ hk => hk.2)⟩, ⟨kX BK299.out⟩, ⟨kX BK314.out⟩, ⟨bS HB.out⟩⟩
   ·replace c24 := Bool.eq_false_iff.mpr c24
    subst c24
    have H1 : (laws_FnExactGetResp.j0 k l0 t298 t300 t313 true t288 t289 t290 t291 t292 t295 t303 t304 t305 t306 t307 t310) = some r := by rw [if_neg (show ¬ (false = true) by decide)] at H; exact H
    clear H
    have H := H1
    clear H1
    have H' := aM H
    clear H
    have hnb29 := NB314_299.out
    have hnc29 := NB299_314.out
    obtain ⟨hcz30_0, hfz30_0, hcz30_1, hfz30_1, hcz30_2, hfz30_2, hcz30_3, hfz30_3, hcz30_4, hfz30_4, hcz30_5, hfz30_5⟩ := bk6 BK314.out
    obtain ⟨hcz31_0, hfz31_0, hcz31_1, hfz31_1, hcz31_2, hfz31_2, hcz31_3, hfz31_3, hcz31_4, hfz31_4, hcz31_5, hfz31_5⟩ := bk6 BK299.out
    go_wp2_with (first | ((with_reducible refine gate_callee (f := 12) rfl ?_); refine gL (some 31) rfl rfl Try.func12 (by kernel_rfl) rfl #[.agg #[.int .i64 t303, .int .i64 t304, .int .i64 t305, .int .i64 t306, .slice Ao21 t307.length co21, .slice Ao22 t310.length co22], .agg #[.int .i64 t288, .int .i64 t289, .int .i64 t290, .int .i64 t291, .slice Ao13 t292.length co13, .slice Ao14 t295.length co14]] rfl ?_; (with_reducible refine (laws_eqResp.calls k t303 t304 t305 t306 _ _ t307 _ _ t310 t288 t289 t290 t291 _ _ t292 _ _ t295 false _ ?side1 ?side2 ?side3 ?side4 ?side5 ?side6 ?side7 ?side8 A23.out).mono ?_); (case side1 => exact (Kd.R_reads' (rF6 HO309.out BK314.out)).2.2); (case side2 => exact (Kd.R_reads' HO309.out).2.1); (case side3 => exact (Kd.R_reads' (rF6 HO312.out BK314.out)).2.2); (case side4 => exact (Kd.R_reads' HO312.out).2.1); (case side5 => exact (Kd.R_reads' (rF6 HO294.out BK314.out)).2.2); (case side6 => exact (Kd.R_reads' HO294.out).2.1); (case side7 => exact (Kd.R_reads' (rF6 HO297.out BK314.out)).2.2); (case side8 => exact (Kd.R_reads' HO297.out).2.1); rintro e w32 ⟨rfl, hb⟩; refine ⟨_, rfl, ?_⟩; have _ := aM (Kd.R_below (rF6 HO287.out BK314.out) hb); have _ := aM (Kd.R_below (rF6 HO294.out BK314.out) hb); have _ := aM (Kd.R_below (rF6 HO297.out BK314.out) hb); have _ := aM (Kd.R_below (rF6 HO302.out BK314.out) hb); have _ := aM (Kd.R_below (rF6 HO309.out BK314.out) hb); have _ := aM (Kd.R_below (rF6 HO312.out BK314.out) hb); have _ := aM (blk_below (kF6 BK299.out NB299_314.out) hb); have _ := aM (blk_below (kP6 BK314.out) hb); have _ := aM (below_step (bS HB.out) hb); clear HO287 HO294 HO297 HO302 HO309 HO312 BK299 BK314 HB; rename_i HO287 HO294 HO297 HO302 HO309 HO312 BK299 BK314 HB; (try clear hb)))
    go_meet
    case rel => exact ⟨_, (true), (by first | rfl | (simp; done) | (simp [*]; done)), H', ⟨by first | omega | exact Nat.le_refl _⟩, ⟨by (with_reducible repeat (first | apply Kd.R_alloc | apply Kd.R_drewN | apply Kd.R_drew)); exact Kd.R_mono HO302.out (fun _ hk => trivial)⟩, ⟨by (with_reducible repeat (first | apply Kd.R_alloc | apply Kd.R_drewN | apply Kd.R_drew)); exact Kd.R_mono HO294.out (fun _ hk => hk.2)⟩, ⟨by (with_reducible repeat (first | apply Kd.R_alloc | apply Kd.R_drewN | apply Kd.R_drew)); exact Kd.R_mono HO297.out (fun _ hk => hk.2)⟩, ⟨by (with_reducible repeat (first | apply Kd.R_alloc | apply Kd.R_drewN | apply Kd.R_drew)); exact Kd.R_mono HO309.out (fun _ hk => hk.2)⟩, ⟨by (with_reducible repeat (first | apply Kd.R_alloc | apply Kd.R_drewN | apply Kd.R_drew)); exact Kd.R_mono HO312.out (fun _ hk => hk.2)⟩, ⟨kX BK299.out⟩, ⟨kX BK314.out⟩, ⟨bS HB.out⟩⟩
  case rest =>
   clear HC7
   try clear c2
   try clear c2b0
   try clear c2b1
   try clear hcz12_0
   try clear hcz12_1
   try clear hcz12_2
   try clear hcz12_3
   try clear hcz12_4
   try clear hcz12_5
   try clear hcz20_0
   try clear hcz20_1
   try clear hcz20_2
   try clear hcz20_3
   try clear hcz20_4
   try clear hcz20_5
   try clear hfz12_0
   try clear hfz12_1
   try clear hfz12_2
   try clear hfz12_3
   try clear hfz12_4
   try clear hfz12_5
   try clear hfz20_0
   try clear hfz20_1
   try clear hfz20_2
   try clear hfz20_3
   try clear hfz20_4
   try clear hfz20_5
   obtain ⟨kq, x37_6, rfl, HA, HJ6, HO_5, HO_300004, HO_300005, HO_315004, HO_315005, BK299, BK314, HB⟩ := hcut
   cases kq with
   | zero => exact absurd HA.out (by simp [laws_FnExactGetResp.j0])
   | succ kj6 =>
    have H := HA.out
    clear HA
    simp only [laws_FnExactGetResp.j0] at H
    by_cases c33 : x37_6 = true
    ·subst c33
     have H1 : (some false) = some r := by rw [if_pos rfl] at H; exact H
     clear H
     have H := H1
     clear H1
     obtain rfl := Option.some.inj H
     go_wp2
     go_ret
     exact ⟨by first | rfl | (simp [errW_none, errW_some] <;> rfl) | (simp [*, errW_none, errW_some] <;> rfl), bS HB.out⟩
    ·replace c33 := Bool.eq_false_iff.mpr c33
     subst c33
     have H1 : ((laws_toByteS.f kj6 l0).bind fun t316 => ((laws_eqByteS.f kj6 t300 t316).bind fun t319 => (if t319 = true then ((laws_markByteS.f kj6 t300 1).bind fun bt320 => (if bt320.1 < 0 then (laws_FnExactGetResp.j1 kj6 l0 t298 true t288 t289 t290 t291 t292 t295 t303 t304 t305 t306 t307 t310) else ((laws_eqResp.f kj6 t303 t304 t305 t306 t307 t310 t288 t289 t290 t291 t292 t295).bind fun t322 => (if t322 = true then (laws_FnExactGetResp.j1 kj6 l0 t298 (t313 != t298) t288 t289 t290 t291 t292 t295 t303 t304 t305 t306 t307 t310) else (laws_FnExactGetResp.j1 kj6 l0 t298 true t288 t289 t290 t291 t292 t295 t303 t304 t305 t306 t307 t310))))) else (some false)))) = some r := by rw [if_neg (show ¬ (false = true) by decide)] at H; exact H
     clear H
     have H := H1
     clear H1
     replace H := Option.bind_eq_some_iff.mp H
     obtain ⟨t316, A340, H⟩ := H
     replace H : ((laws_eqByteS.f kj6 t300 t316).bind fun t319 => (if t319 = true then ((laws_markByteS.f kj6 t300 1).bind fun bt320 => (if bt320.1 < 0 then (laws_FnExactGetResp.j1 kj6 l0 t298 true t288 t289 t290 t291 t292 t295 t303 t304 t305 t306 t307 t310) else ((laws_eqResp.f kj6 t303 t304 t305 t306 t307 t310 t288 t289 t290 t291 t292 t295).bind fun t322 => (if t322 = true then (laws_FnExactGetResp.j1 kj6 l0 t298 (t313 != t298) t288 t289 t290 t291 t292 t295 t303 t304 t305 t306 t307 t310) else (laws_FnExactGetResp.j1 kj6 l0 t298 true t288 t289 t290 t291 t292 t295 t303 t304 t305 t306 t307 t310))))) else (some false))) = some r := H
     have A34 := aM A340
     clear A340
     replace H := Option.bind_eq_some_iff.mp H
     obtain ⟨t319, A350, H⟩ := H
     replace H : (if t319 = true then ((laws_markByteS.f kj6 t300 1).bind fun bt320 => (if bt320.1 < 0 then (laws_FnExactGetResp.j1 kj6 l0 t298 true t288 t289 t290 t291 t292 t295 t303 t304 t305 t306 t307 t310) else ((laws_eqResp.f kj6 t303 t304 t305 t306 t307 t310 t288 t289 t290 t291 t292 t295).bind fun t322 => (if t322 = true then (laws_FnExactGetResp.j1 kj6 l0 t298 (t313 != t298) t288 t289 t290 t291 t292 t295 t303 t304 t305 t306 t307 t310) else (laws_FnExactGetResp.j1 kj6 l0 t298 true t288 t289 t290 t291 t292 t295 t303 t304 t305 t306 t307 t310))))) else (some false)) = some r := H
     have A35 := aM A350
     clear A350
     by_cases c36 : t319 = true
     ·subst c36
      have H1 : ((laws_markByteS.f kj6 t300 1).bind fun bt320 => (if bt320.1 < 0 then (laws_FnExactGetResp.j1 kj6 l0 t298 true t288 t289 t290 t291 t292 t295 t303 t304 t305 t306 t307 t310) else ((laws_eqResp.f kj6 t303 t304 t305 t306 t307 t310 t288 t289 t290 t291 t292 t295).bind fun t322 => (if t322 = true then (laws_FnExactGetResp.j1 kj6 l0 t298 (t313 != t298) t288 t289 t290 t291 t292 t295 t303 t304 t305 t306 t307 t310) else (laws_FnExactGetResp.j1 kj6 l0 t298 true t288 t289 t290 t291 t292 t295 t303 t304 t305 t306 t307 t310))))) = some r := by rw [if_pos rfl] at H; exact H
      clear H
      have H := H1
      clear H1
      replace H := Option.bind_eq_some_iff.mp H
      obtain ⟨⟨t320, t321⟩, A370, H⟩ := H
      replace H : (if t320 < 0 then (laws_FnExactGetResp.j1 kj6 l0 t298 true t288 t289 t290 t291 t292 t295 t303 t304 t305 t306 t307 t310) else ((laws_eqResp.f kj6 t303 t304 t305 t306 t307 t310 t288 t289 t290 t291 t292 t295).bind fun t322 => (if t322 = true then (laws_FnExactGetResp.j1 kj6 l0 t298 (t313 != t298) t288 t289 t290 t291 t292 t295 t303 t304 t305 t306 t307 t310) else (laws_FnExactGetResp.j1 kj6 l0 t298 true t288 t289 t290 t291 t292 t295 t303 t304 t305 t306 t307 t310)))) = some r := H
      have A37 := aM A370
      clear A370
      have HC38 := aM H
      clear H
      go_upto_region 12 with (first | ((with_reducible refine gate_callee (f := 17) rfl ?_); refine gL (some 40) rfl rfl Try.func17 (by kernel_rfl) rfl #[.slice A0 l0.length c0] rfl ?_; (with_reducible refine (laws_toByteS.calls kj6 _ _ l0 t316 _ ?side1 ?side2 A34.out).mono ?_); (case side1 => exact cB HR0.out HB.out); (case side2 => exact HC0.out); rintro e w39 ⟨v317, rfl, ho0, hb⟩; refine ⟨_, rfl, ?_⟩; have _ := aM (Kd.R_elder' (rA HO_5.out) (Kd.R_base ho0) hb); have _ := aM (rB HO_300004.out hb); have _ := aM (rB HO_300005.out hb); have _ := aM (rB HO_315004.out hb); have _ := aM (rB HO_315005.out hb); have _ := aM (Kd.R_lower (Kd.R_new' ho0 (Kd.R_lt (rA HO_5.out))) (below_size (bS HB.out))); have _ := aM (kB BK299.out hb); have _ := aM (kB BK314.out hb); have _ := aM (below_step (bS HB.out) hb); clear HO_5 HO_300004 HO_300005 HO_315004 HO_315005 BK299 BK314 HB; rename_i HO_5 HO_300004 HO_300005 HO_315004 HO_315005 HO318 BK299 BK314 HB; (try clear hb); (try clear ho0); obtain ⟨Ao40, co40, eo40⟩ := Kd.R_slice HO318.out; subst eo40) | ((with_reducible refine gate_callee (f := 11) rfl ?_); refine gL (some 41) rfl rfl Try.func11 (by kernel_rfl) rfl #[.slice Ao16 t300.length co16, .slice Ao40 t316.length co40] rfl ?_; (with_reducible refine (laws_eqByteS.calls kj6 _ _ t300 _ _ t316 true _ ?side1 ?side2 ?side3 ?side4 A35.out).mono ?_); (case side1 => exact cR HO_5.out); (case side2 => exact (Kd.R_reads' HO_5.out).2.1); (case side3 => exact cR HO318.out); (case side4 => exact (Kd.R_reads' HO318.out).2.1); rintro e w' ⟨rfl, ⟨nd, rfl⟩⟩; refine ⟨_, rfl, ?_⟩) | ((with_reducible refine gate_callee (f := 14) rfl ?_); refine gL (some 45) rfl rfl Try.func14 (by kernel_rfl) rfl #[.slice Ao16 t300.length co16, .int .i64 1] rfl ?_; (with_reducible refine (laws_markByteS.calls kj6 (fun k_ => some k_ = (.slice Ao16 t300.length co16 : Value).ownBlock) (.slice Ao16 t300.length co16) t300 1 t320 t321 w _ ?side1 ?side2 A37.out).mono ?_); (case side1 => repeat (first | (with_reducible first | exact HB.out | apply below_alloc | apply pw_below_drewN | apply below_drew1 | refine below_set ?_ GE299.out | refine below_set ?_ GE314.out) | exact HB.out)); (case side2 => exact Kd.R_tight rfl HO_5.out); rintro e w41 ⟨rfl, hy0, hb, hkp⟩; refine ⟨_, rfl, ?_⟩; have _ := aM (Kd.R_reok rfl hy0 (fun k_ e_ => HO_5.out.1 k_ e_)); have _ := aM (Kd.R_mono (ok' := fun k_ => some k_ ≠ (.slice Ao21 t307.length co21 : Value).ownBlock) (Kd.R_keptB ((Kd.R_apart' HO_300004.out (Kd.R_typed HO_5.out) (by decide))) hkp (fun k_ hk_ hs_ => (hk_.2) hs_)) (fun k_ hk_ => hk_.1.1)); have _ := aM (Kd.R_mono (ok' := fun k_ => some k_ ≠ (.slice Ao22 t310.length co22 : Value).ownBlock) (Kd.R_keptB ((Kd.R_apart' HO_300005.out (Kd.R_typed HO_5.out) (by decide))) hkp (fun k_ hk_ hs_ => (hk_.2) hs_)) (fun k_ hk_ => hk_.1.1)); have _ := aM (Kd.R_mono (ok' := fun k_ => some k_ ≠ (.slice Ao13 t292.length co13 : Value).ownBlock) (Kd.R_keptB ((Kd.R_apart' HO_315004.out (Kd.R_typed HO_5.out) (by decide))) hkp (fun k_ hk_ hs_ => (hk_.2) hs_)) (fun k_ hk_ => hk_.1.1)); have _ := aM (Kd.R_mono (ok' := fun k_ => some k_ ≠ (.slice Ao14 t295.length co14 : Value).ownBlock) (Kd.R_keptB ((Kd.R_apart' HO_315005.out (Kd.R_typed HO_5.out) (by decide))) hkp (fun k_ hk_ hs_ => (hk_.2) hs_)) (fun k_ hk_ => hk_.1.1)); have _ := aM (blk_kept (kA BK299.out) hkp (fun hs_ => (fun e_ => (Kd.R_ne HO_5.out BK299.out (by decide)) e_) hs_)); have _ := aM (blk_kept (kA BK314.out) hkp (fun hs_ => (fun e_ => (Kd.R_ne HO_5.out BK314.out (by decide)) e_) hs_)); have _ := aM (Kd.R_mono (ok' := fun k_ => some k_ ≠ (.slice Ao16 t300.length co16 : Value).ownBlock) (Kd.R_keptB (HO318.out) hkp (fun k_ hk_ hs_ => (hk_.2) hs_)) (fun k_ hk_ => hk_.1.2)); have _ := aM (hb); clear HO_5 HO_300004 HO_300005 HO_315004 HO_315005 BK299 BK314 HO318 HB; rename_i HO_5 HO_300004 HO_300005 HO_315004 HO_315005 BK299 BK314 HO318 HB; (try clear hb); (try clear hkp); (try clear hy0)))
      (try simp only [Act.put, List.setIfInBounds_toArray, List.set_cons_zero, List.set_cons_succ])
      go_cut [58] (fun v58 wc => ∃ (kq : Nat) (x58_37 : Bool), v58 = .bool x58_37 ∧ Aside0 (laws_FnExactGetResp.j1 kq l0 t298 x58_37 t288 t289 t290 t291 t292 t295 t303 t304 t305 t306 t307 t310 = some r) ∧ Aside0 (kq ≤ kj6) ∧ Aside0 (Kd.R (Kd.int .i64) 3 wc w.heap.size (fun k_ => some k_ ≠ ((.slice Ao21 t307.length co21) : Value).ownBlock) (.slice Ao13 t292.length co13) t292) ∧ Aside0 (Kd.R Kd.bool 4 wc w.heap.size (fun k_ => some k_ ≠ ((.slice Ao22 t310.length co22) : Value).ownBlock) (.slice Ao14 t295.length co14) t295) ∧ Aside0 (Kd.R (Kd.int .i64) 3 wc w.heap.size (fun k_ => some k_ ≠ ((.slice Ao13 t292.length co13) : Value).ownBlock) (.slice Ao21 t307.length co21) t307) ∧ Aside0 (Kd.R Kd.bool 4 wc w.heap.size (fun k_ => some k_ ≠ ((.slice Ao14 t295.length co14) : Value).ownBlock) (.slice Ao22 t310.length co22) t310) ∧ Aside0 (wc.heap[gb299]? = some (.cells #[.int .i64 t288, .int .i64 t289, .int .i64 t290, .int .i64 t291, (.slice Ao13 t292.length co13), (.slice Ao14 t295.length co14)] 29 (0, 0))) ∧ Aside0 (wc.heap[gb314]? = some (.cells #[.int .i64 t303, .int .i64 t304, .int .i64 t305, .int .i64 t306, (.slice Ao21 t307.length co21), (.slice Ao22 t310.length co22)] 29 (0, 0))) ∧ Aside0 (Below w.heap.size w wc))
      case first =>
       have H := HC38.out
       clear HC38
       by_cases c42 : t320 < 0
       ·rw [if_pos c42] at H
        have c42b0 : decide (t320 < 0) = true := decide_eq_true c42
        clear c42
        (first | rw [c42b0] | (simp only [i64_w, i32_w]; rw [c42b0]) | skip)
        have H' := aM H
        clear H
        go_wp2
        go_meet
        case rel => exact ⟨_, (true), (by first | rfl | (simp; done) | (simp [*]; done)), H', ⟨by have := HJ6.out; first | omega | exact Nat.le_refl _⟩, ⟨by (with_reducible repeat (first | apply Kd.R_alloc | apply Kd.R_drewN | apply Kd.R_drew)); exact HO_300004.out⟩, ⟨by (with_reducible repeat (first | apply Kd.R_alloc | apply Kd.R_drewN | apply Kd.R_drew)); exact HO_300005.out⟩, ⟨by (with_reducible repeat (first | apply Kd.R_alloc | apply Kd.R_drewN | apply Kd.R_drew)); exact HO_315004.out⟩, ⟨by (with_reducible repeat (first | apply Kd.R_alloc | apply Kd.R_drewN | apply Kd.R_drew)); exact HO_315005.out⟩, ⟨kX BK299.out⟩, ⟨kX BK314.out⟩, ⟨bS HB.out⟩⟩
       ·rw [if_neg c42] at H
        have c42b0 : decide (t320 < 0) = false := decide_eq_false c42
        clear c42
        (first | rw [c42b0] | (simp only [i64_w, i32_w]; rw [c42b0]) | skip)
        replace H := Option.bind_eq_some_iff.mp H
        obtain ⟨t322, A430, H⟩ := H
        replace H : (if t322 = true then (laws_FnExactGetResp.j1 kj6 l0 t298 (t313 != t298) t288 t289 t290 t291 t292 t295 t303 t304 t305 t306 t307 t310) else (laws_FnExactGetResp.j1 kj6 l0 t298 true t288 t289 t290 t291 t292 t295 t303 t304 t305 t306 t307 t310)) = some r := H
        have A43 := aM A430
        clear A430
        by_cases c44 : t322 = true
        ·subst c44
         have H1 : (laws_FnExactGetResp.j1 kj6 l0 t298 (t313 != t298) t288 t289 t290 t291 t292 t295 t303 t304 t305 t306 t307 t310) = some r := by rw [if_pos rfl] at H; exact H
         clear H
         have H := H1
         clear H1
         have H' := aM H
         clear H
         have hnb45 := NB314_299.out
         have hnc45 := NB299_314.out
         obtain ⟨hcz46_0, hfz46_0, hcz46_1, hfz46_1, hcz46_2, hfz46_2, hcz46_3, hfz46_3, hcz46_4, hfz46_4, hcz46_5, hfz46_5⟩ := bk6 BK314.out
         obtain ⟨hcz47_0, hfz47_0, hcz47_1, hfz47_1, hcz47_2, hfz47_2, hcz47_3, hfz47_3, hcz47_4, hfz47_4, hcz47_5, hfz47_5⟩ := bk6 BK299.out
         go_wp2_with (first | (go_at_call 12; (with_reducible refine (laws_eqResp.calls kj6 t303 t304 t305 t306 _ _ t307 _ _ t310 t288 t289 t290 t291 _ _ t292 _ _ t295 true _ ?side1 ?side2 ?side3 ?side4 ?side5 ?side6 ?side7 ?side8 A43.out).mono ?_); (case side1 => exact cR HO_315004.out); (case side2 => exact (Kd.R_reads' HO_315004.out).2.1); (case side3 => exact cR HO_315005.out); (case side4 => exact (Kd.R_reads' HO_315005.out).2.1); (case side5 => exact cR HO_300004.out); (case side6 => exact (Kd.R_reads' HO_300004.out).2.1); (case side7 => exact cR HO_300005.out); (case side8 => exact (Kd.R_reads' HO_300005.out).2.1); rintro e w48 ⟨rfl, hb⟩; have _ := aM (rB HO_5.out hb); have _ := aM (rB HO_300004.out hb); have _ := aM (rB HO_300005.out hb); have _ := aM (rB HO_315004.out hb); have _ := aM (rB HO_315005.out hb); have _ := aM (rB HO318.out hb); have _ := aM (kB BK299.out hb); have _ := aM (kB BK314.out hb); have _ := aM (below_step (bS HB.out) hb); clear HO_5 HO_300004 HO_300005 HO_315004 HO_315005 HO318 BK299 BK314 HB; rename_i HO_5 HO_300004 HO_300005 HO_315004 HO_315005 HO318 BK299 BK314 HB; (try clear hb)))
         go_meet
         case rel => exact ⟨_, ((t313 != t298)), (by first | rfl | (simp; done) | (simp [*]; done)), H', ⟨by have := HJ6.out; first | omega | exact Nat.le_refl _⟩, ⟨by (with_reducible repeat (first | apply Kd.R_alloc | apply Kd.R_drewN | apply Kd.R_drew)); exact HO_300004.out⟩, ⟨by (with_reducible repeat (first | apply Kd.R_alloc | apply Kd.R_drewN | apply Kd.R_drew)); exact HO_300005.out⟩, ⟨by (with_reducible repeat (first | apply Kd.R_alloc | apply Kd.R_drewN | apply Kd.R_drew)); exact HO_315004.out⟩, ⟨by (with_reducible repeat (first | apply Kd.R_alloc | apply Kd.R_drewN | apply Kd.R_drew)); exact HO_315005.out⟩, ⟨kX BK299.out⟩, ⟨kX BK314.out⟩, ⟨bS HB.out⟩⟩
        ·replace c44 := Bool.eq_false_iff.mpr c44
         subst c44
         have H1 : (laws_FnExactGetResp.j1 kj6 l0 t298 true t288 t289 t290 t291 t292 t295 t303 t304 t305 t306 t307 t310) = some r := by rw [if_neg (show ¬ (false = true) by decide)] at H; exact H
         clear H
         have H := H1
         clear H1
         have H' := aM H
         clear H
         have hnb49 := NB314_299.out
         have hnc49 := NB299_314.out
         obtain ⟨hcz50_0, hfz50_0, hcz50_1, hfz50_1, hcz50_2, hfz50_2, hcz50_3, hfz50_3, hcz50_4, hfz50_4, hcz50_5, hfz50_5⟩ := bk6 BK314.out
         obtain ⟨hcz51_0, hfz51_0, hcz51_1, hfz51_1, hcz51_2, hfz51_2, hcz51_3, hfz51_3, hcz51_4, hfz51_4, hcz51_5, hfz51_5⟩ := bk6 BK299.out
         go_wp2_with (first | (go_at_call 12; (with_reducible refine (laws_eqResp.calls kj6 t303 t304 t305 t306 _ _ t307 _ _ t310 t288 t289 t290 t291 _ _ t292 _ _ t295 false _ ?side1 ?side2 ?side3 ?side4 ?side5 ?side6 ?side7 ?side8 A43.out).mono ?_); (case side1 => exact cR HO_315004.out); (case side2 => exact (Kd.R_reads' HO_315004.out).2.1); (case side3 => exact cR HO_315005.out); (case side4 => exact (Kd.R_reads' HO_315005.out).2.1); (case side5 => exact cR HO_300004.out); (case side6 => exact (Kd.R_reads' HO_300004.out).2.1); (case side7 => exact cR HO_300005.out); (case side8 => exact (Kd.R_reads' HO_300005.out).2.1); rintro e w52 ⟨rfl, hb⟩; have _ := aM (rB HO_5.out hb); have _ := aM (rB HO_300004.out hb); have _ := aM (rB HO_300005.out hb); have _ := aM (rB HO_315004.out hb); have _ := aM (rB HO_315005.out hb); have _ := aM (rB HO318.out hb); have _ := aM (kB BK299.out hb); have _ := aM (kB BK314.out hb); have _ := aM (below_step (bS HB.out) hb); clear HO_5 HO_300004 HO_300005 HO_315004 HO_315005 HO318 BK299 BK314 HB; rename_i HO_5 HO_300004 HO_300005 HO_315004 HO_315005 HO318 BK299 BK314 HB; (try clear hb)))
         go_meet
         case rel => exact ⟨_, (true), (by first | rfl | (simp; done) | (simp [*]; done)), H', ⟨by have := HJ6.out; first | omega | exact Nat.le_refl _⟩, ⟨by (with_reducible repeat (first | apply Kd.R_alloc | apply Kd.R_drewN | apply Kd.R_drew)); exact HO_300004.out⟩, ⟨by (with_reducible repeat (first | apply Kd.R_alloc | apply Kd.R_drewN | apply Kd.R_drew)); exact HO_300005.out⟩, ⟨by (with_reducible repeat (first | apply Kd.R_alloc | apply Kd.R_drewN | apply Kd.R_drew)); exact HO_315004.out⟩, ⟨by (with_reducible repeat (first | apply Kd.R_alloc | apply Kd.R_drewN | apply Kd.R_drew)); exact HO_315005.out⟩, ⟨kX BK299.out⟩, ⟨kX BK314.out⟩, ⟨bS HB.out⟩⟩
      case rest =>
       clear HC38
       try clear c1
       try clear c2
       try clear c2b0
       try clear c2b1
       try clear p2
       try clear c4
       try clear c12
       try clear c16
       try clear c17
       try clear c18
       try clear c19
       try clear c24
       try clear c25
       try clear c29
       try clear c33
       try clear c36
       try clear hcz12_0
       try clear hcz12_1
       try clear hcz12_2
       try clear hcz12_3
       try clear hcz12_4
       try clear hcz12_5
       try clear hcz20_0
       try clear hcz20_1
       try clear hcz20_2
       try clear hcz20_3
       try clear hcz20_4
       try clear hcz20_5
       try clear hcz26_0
       try clear hcz26_1
       try clear hcz26_2
       try clear hcz26_3
       try clear hcz26_4
       try clear hcz26_5
       try clear hcz27_0
       try clear hcz27_1
       try clear hcz27_2
       try clear hcz27_3
       try clear hcz27_4
       try clear hcz27_5
       try clear hcz30_0
       try clear hcz30_1
       try clear hcz30_2
       try clear hcz30_3
       try clear hcz30_4
       try clear hcz30_5
       try clear hcz31_0
       try clear hcz31_1
       try clear hcz31_2
       try clear hcz31_3
       try clear hcz31_4
       try clear hcz31_5
       try clear hfz12_0
       try clear hfz12_1
       try clear hfz12_2
       try clear hfz12_3
       try clear hfz12_4
       try clear hfz12_5
       try clear hfz20_0
       try clear hfz20_1
       try clear hfz20_2
       try clear hfz20_3
       try clear hfz20_4
       try clear hfz20_5
       try clear hfz26_0
       try clear hfz26_1
       try clear hfz26_2
       try clear hfz26_3
       try clear hfz26_4
       try clear hfz26_5
       try clear hfz27_0
       try clear hfz27_1
       try clear hfz27_2
       try clear hfz27_3
       try clear hfz27_4
       try clear hfz27_5
       try clear hfz30_0
       try clear hfz30_1
       try clear hfz30_2
       try clear hfz30_3
       try clear hfz30_4
       try clear hfz30_5
       try clear hfz31_0
       try clear hfz31_1
       try clear hfz31_2
       try clear hfz31_3
       try clear hfz31_4
       try clear hfz31_5
       try clear p2
       obtain ⟨kq, x58_37, rfl, HA, HJ37, HO_300004, HO_300005, HO_315004, HO_315005, BK299, BK314, HB⟩ := hcut
       cases kq with
       | zero => exact absurd HA.out (by simp [laws_FnExactGetResp.j1])
       | succ kj37 =>
        have H := HA.out
        clear HA
        simp only [laws_FnExactGetResp.j1] at H
        by_cases c53 : x58_37 = true
        ·subst c53
         have H1 : (some false) = some r := by rw [if_pos rfl] at H; exact H
         clear H
         have H := H1
         clear H1
         obtain rfl := Option.some.inj H
         go_wp2
         go_ret
         exact ⟨by first | rfl | (simp [errW_none, errW_some] <;> rfl) | (simp [*, errW_none, errW_some] <;> rfl), bS HB.out⟩
        ·replace c53 := Bool.eq_false_iff.mpr c53
         subst c53
         have H1 : ((laws_markResp.f kj37 t303 t304 t305 t306 t307 t310 1).bind fun bt323 => ((laws_heldResp.f kj37 t303 t304 t305 t306 bt323.2.1 bt323.2.2 1).bind fun t326 => (if t326 < 0 then (some false) else (if t326 = bt323.1 then ((laws_toByteS.f kj37 l0).bind fun t327 => ((impl_GetResp.f kj37 t327).bind fun bt330 => ((laws_eqResp.f kj37 bt330.1 bt330.2.1 bt330.2.2.1 bt330.2.2.2.1 bt330.2.2.2.2.1 bt330.2.2.2.2.2.1 t288 t289 t290 t291 t292 t295).bind fun t342 => (if t342 = true then (laws_FnExactGetResp.j2 kj37 bt323.1 (bt330.2.2.2.2.2.2 != t298) t303 t304 t305 t306 bt323.2.1 bt323.2.2) else (laws_FnExactGetResp.j2 kj37 bt323.1 true t303 t304 t305 t306 bt323.2.1 bt323.2.2))))) else (some false))))) = some r := by rw [if_neg (show ¬ (false = true) by decide)] at H; exact H
         clear H
         have H := H1
         clear H1
         replace H := Option.bind_eq_some_iff.mp H
         obtain ⟨⟨t323, t324, t325⟩, A540, H⟩ := H
         replace H : ((laws_heldResp.f kj37 t303 t304 t305 t306 t324 t325 1).bind fun t326 => (if t326 < 0 then (some false) else (if t326 = t323 then ((laws_toByteS.f kj37 l0).bind fun t327 => ((impl_GetResp.f kj37 t327).bind fun bt330 => ((laws_eqResp.f kj37 bt330.1 bt330.2.1 bt330.2.2.1 bt330.2.2.2.1 bt330.2.2.2.2.1 bt330.2.2.2.2.2.1 t288 t289 t290 t291 t292 t295).bind fun t342 => (if t342 = true then (laws_FnExactGetResp.j2 kj37 t323 (bt330.2.2.2.2.2.2 != t298) t303 t304 t305 t306 t324 t325) else (laws_FnExactGetResp.j2 kj37 t323 true t303 t304 t305 t306 t324 t325))))) else (some false)))) = some r := H
         have A54 := aM A540
         clear A540
         replace H := Option.bind_eq_some_iff.mp H
         obtain ⟨t326, A550, H⟩ := H
         replace H : (if t326 < 0 then (some false) else (if t326 = t323 then ((laws_toByteS.f kj37 l0).bind fun t327 => ((impl_GetResp.f kj37 t327).bind fun bt330 => ((laws_eqResp.f kj37 bt330.1 bt330.2.1 bt330.2.2.1 bt330.2.2.2.1 bt330.2.2.2.2.1 bt330.2.2.2.2.2.1 t288 t289 t290 t291 t292 t295).bind fun t342 => (if t342 = true then (laws_FnExactGetResp.j2 kj37 t323 (bt330.2.2.2.2.2.2 != t298) t303 t304 t305 t306 t324 t325) else (laws_FnExactGetResp.j2 kj37 t323 true t303 t304 t305 t306 t324 t325))))) else (some false))) = some r := H
         have A55 := aM A550
         clear A550
         by_cases c56 : t326 < 0
         ·rw [if_pos c56] at H
          have c56b0 : decide (t326 < 0) = true := decide_eq_true c56
          clear c56
          obtain rfl := Option.some.inj H
          have hnb57 := NB314_299.out
          have hnc57 := NB299_314.out
          obtain ⟨hcz58_0, hfz58_0, hcz58_1, hfz58_1, hcz58_2, hfz58_2, hcz58_3, hfz58_3, hcz58_4, hfz58_4, hcz58_5, hfz58_5⟩ := bk6 BK314.out
          go_wp2_with (first | ((with_reducible refine gate_callee (f := 13) rfl ?_); refine gL (some 61) rfl rfl Try.func13 (by kernel_rfl) rfl #[.agg #[.int .i64 t303, .int .i64 t304, .int .i64 t305, .int .i64 t306, .slice Ao21 t307.length co21, .slice Ao22 t310.length co22], .int .i64 1] rfl ?_; (with_reducible refine (laws_markResp.calls kj37 t303 t304 t305 t306 (fun k_ => some k_ = (.slice Ao21 t307.length co21 : Value).ownBlock) (.slice Ao21 t307.length co21) t307 (fun k_ => some k_ = (.slice Ao22 t310.length co22 : Value).ownBlock) (.slice Ao22 t310.length co22) t310 1 t323 t324 t325 w _ ?side1 ?side2 ?side3 A54.out).mono ?_); (case side1 => repeat (first | (with_reducible first | exact HB.out | apply below_alloc | apply pw_below_drewN | apply below_drew1 | refine below_set ?_ GE299.out | refine below_set ?_ GE314.out) | exact HB.out)); (case side2 => exact Kd.R_tight rfl HO_315004.out); (case side3 => exact Kd.R_tight rfl HO_315005.out); rintro e w59 ⟨rfl, hy0, hy1, hb, hkp⟩; refine ⟨_, rfl, ?_⟩; have _ := aM (Kd.R_mono (ok' := fun k_ => some k_ ≠ (.slice Ao21 t307.length co21 : Value).ownBlock) (Kd.R_keptB ((Kd.R_apart' HO_300004.out (Kd.R_typed HO_315005.out) (by decide))) hkp (fun k_ hk_ hs_ => by first | exact Or.elim hs_ (fun e_ => (hk_.1) e_) (fun e_ => (hk_.2) e_) | (rcases hs_ with e_ | e_ <;> simp [e_] at hk_))) (fun k_ hk_ => hk_.1.1)); have _ := aM (Kd.R_mono (ok' := fun k_ => some k_ ≠ (.slice Ao22 t310.length co22 : Value).ownBlock) (Kd.R_keptB ((Kd.R_apart' HO_300005.out (Kd.R_typed HO_315004.out) (by decide))) hkp (fun k_ hk_ hs_ => by first | exact Or.elim hs_ (fun e_ => (hk_.2) e_) (fun e_ => (hk_.1) e_) | (rcases hs_ with e_ | e_ <;> simp [e_] at hk_))) (fun k_ hk_ => hk_.1.1)); have _ := aM (Kd.R_reok rfl hy0 (fun k_ e_ => HO_315004.out.1 k_ e_)); have _ := aM (Kd.R_reok rfl hy1 (fun k_ e_ => HO_315005.out.1 k_ e_)); have _ := aM (blk_kept (kA BK299.out) hkp (fun hs_ => Or.elim hs_ (fun e_ => (fun e_ => (Kd.R_ne HO_315004.out BK299.out (by decide)) e_) e_) (fun e_ => (fun e_ => (Kd.R_ne HO_315005.out BK299.out (by decide)) e_) e_))); have _ := aM (blk_kept (kA BK314.out) hkp (fun hs_ => Or.elim hs_ (fun e_ => (fun e_ => (Kd.R_ne HO_315004.out BK314.out (by decide)) e_) e_) (fun e_ => (fun e_ => (Kd.R_ne HO_315005.out BK314.out (by decide)) e_) e_))); have _ := aM (hb); clear HO_300004 HO_300005 HO_315004 HO_315005 BK299 BK314 HB; rename_i HO_300004 HO_300005 HO_315004 HO_315005 BK299 BK314 HB; (try clear hb); (try clear hkp); (try clear hy0); (try clear hy1); obtain ⟨hcz60_0, hfz60_0, hcz60_1, hfz60_1, hcz60_2, hfz60_2, hcz60_3, hfz60_3, hcz60_4, hfz60_4, hcz60_5, hfz60_5⟩ := bk6 BK314.out) | ((with_reducible refine gate_callee (f := 19) rfl ?_); refine goesL_ (some 64) rfl rfl Try.func19 (by kernel_rfl) rfl #[.agg #[.int .i64 t303, .int .i64 t304, .int .i64 t305, .int .i64 t306, .slice Ao21 t324.length co21, .slice Ao22 t325.length co22], .int .i64 1] rfl (by (try simp only [List.map_toArray, List.map_cons, List.map_nil]); first | done | (rw [show t324.length = t307.length from (Kd.R_reads' HO_315004.out).1.symm, show t325.length = t310.length from (Kd.R_reads' HO_315005.out).1.symm] <;> rfl) | rfl | (simp only [List.length_drop, List.length_take]; rfl)) ?_; (with_reducible refine (laws_heldResp.calls kj37 t303 t304 t305 t306 _ _ t324 _ _ t325 1 t326 _ ?side1 ?side2 ?side3 ?side4 A55.out).mono ?_); (case side1 => exact cR HO_315004.out); (case side2 => rw [show t324.length = t307.length from (Kd.R_reads' HO_315004.out).1.symm]; exact (Kd.R_reads' HO_315004.out).2.1); (case side3 => exact cR HO_315005.out); (case side4 => rw [show t325.length = t310.length from (Kd.R_reads' HO_315005.out).1.symm]; exact (Kd.R_reads' HO_315005.out).2.1); rintro e w61 ⟨rfl, hb⟩; refine ⟨_, rfl, ?_⟩; have _ := aM (rB HO_300004.out hb); have _ := aM (rB HO_300005.out hb); have _ := aM (rB HO_315004.out hb); have _ := aM (rB HO_315005.out hb); have _ := aM (kB BK299.out hb); have _ := aM (kB BK314.out hb); have _ := aM (below_step (bS HB.out) hb); clear HO_300004 HO_300005 HO_315004 HO_315005 BK299 BK314 HB; rename_i HO_300004 HO_300005 HO_315004 HO_315005 BK299 BK314 HB; (try clear hb)))
          go_ret
          exact ⟨by first | rfl | (simp [errW_none, errW_some] <;> rfl) | (simp [*, errW_none, errW_some] <;> rfl), bS HB.out⟩
         ·rw [if_neg c56] at H
          have c56b0 : decide (t326 < 0) = false := decide_eq_false c56
          clear c56
          by_cases c62 : t326 = t323
          ·rw [if_pos c62] at H
           have c62b0 : (t326 == t323) = true := beq_iff_eq.mpr c62
           have c62b1 : (t326 != t323) = false := bne_eq_false_iff_eq.mpr c62
           clear c62
           replace H := Option.bind_eq_some_iff.mp H
           obtain ⟨t327, A630, H⟩ := H
           replace H : ((impl_GetResp.f kj37 t327).bind fun bt330 => ((laws_eqResp.f kj37 bt330.1 bt330.2.1 bt330.2.2.1 bt330.2.2.2.1 bt330.2.2.2.2.1 bt330.2.2.2.2.2.1 t288 t289 t290 t291 t292 t295).bind fun t342 => (if t342 = true then (laws_FnExactGetResp.j2 kj37 t323 (bt330.2.2.2.2.2.2 != t298) t303 t304 t305 t306 t324 t325) else (laws_FnExactGetResp.j2 kj37 t323 true t303 t304 t305 t306 t324 t325)))) = some r := H
           have A63 := aM A630
           clear A630
           replace H := Option.bind_eq_some_iff.mp H
           obtain ⟨⟨t330, t331, t332, t333, t334, t337, t340⟩, A640, H⟩ := H
           replace H : ((laws_eqResp.f kj37 t330 t331 t332 t333 t334 t337 t288 t289 t290 t291 t292 t295).bind fun t342 => (if t342 = true then (laws_FnExactGetResp.j2 kj37 t323 (t340 != t298) t303 t304 t305 t306 t324 t325) else (laws_FnExactGetResp.j2 kj37 t323 true t303 t304 t305 t306 t324 t325))) = some r := H
           have A64 := aM A640
           clear A640
           have HC65 := aM H
           clear H
           have hnb66 := NB314_299.out
           have hnc66 := NB299_314.out
           obtain ⟨hcz67_0, hfz67_0, hcz67_1, hfz67_1, hcz67_2, hfz67_2, hcz67_3, hfz67_3, hcz67_4, hfz67_4, hcz67_5, hfz67_5⟩ := bk6 BK314.out
           go_upto_region 23 with (first | ((with_reducible refine gate_callee (f := 13) rfl ?_); refine gL (some 61) rfl rfl Try.func13 (by kernel_rfl) rfl #[.agg #[.int .i64 t303, .int .i64 t304, .int .i64 t305, .int .i64 t306, .slice Ao21 t307.length co21, .slice Ao22 t310.length co22], .int .i64 1] rfl ?_; (with_reducible refine (laws_markResp.calls kj37 t303 t304 t305 t306 (fun k_ => some k_ = (.slice Ao21 t307.length co21 : Value).ownBlock) (.slice Ao21 t307.length co21) t307 (fun k_ => some k_ = (.slice Ao22 t310.length co22 : Value).ownBlock) (.slice Ao22 t310.length co22) t310 1 t323 t324 t325 w _ ?side1 ?side2 ?side3 A54.out).mono ?_); (case side1 => repeat (first | (with_reducible first | exact HB.out | apply below_alloc | apply pw_below_drewN | apply below_drew1 | refine below_set ?_ GE299.out | refine below_set ?_ GE314.out) | exact HB.out)); (case side2 => exact Kd.R_tight rfl HO_315004.out); (case side3 => exact Kd.R_tight rfl HO_315005.out); rintro e w68 ⟨rfl, hy0, hy1, hb, hkp⟩; refine ⟨_, rfl, ?_⟩; have _ := aM (Kd.R_mono (ok' := fun k_ => some k_ ≠ (.slice Ao21 t307.length co21 : Value).ownBlock) (Kd.R_keptB ((Kd.R_apart' HO_300004.out (Kd.R_typed HO_315005.out) (by decide))) hkp (fun k_ hk_ hs_ => by first | exact Or.elim hs_ (fun e_ => (hk_.1) e_) (fun e_ => (hk_.2) e_) | (rcases hs_ with e_ | e_ <;> simp [e_] at hk_))) (fun k_ hk_ => hk_.1.1)); have _ := aM (Kd.R_mono (ok' := fun k_ => some k_ ≠ (.slice Ao22 t310.length co22 : Value).ownBlock) (Kd.R_keptB ((Kd.R_apart' HO_300005.out (Kd.R_typed HO_315004.out) (by decide))) hkp (fun k_ hk_ hs_ => by first | exact Or.elim hs_ (fun e_ => (hk_.2) e_) (fun e_ => (hk_.1) e_) | (rcases hs_ with e_ | e_ <;> simp [e_] at hk_))) (fun k_ hk_ => hk_.1.1)); have _ := aM (Kd.R_reok rfl hy0 (fun k_ e_ => HO_315004.out.1 k_ e_)); have _ := aM (Kd.R_reok rfl hy1 (fun k_ e_ => HO_315005.out.1 k_ e_)); have _ := aM (blk_kept (kA BK299.out) hkp (fun hs_ => Or.elim hs_ (fun e_ => (fun e_ => (Kd.R_ne HO_315004.out BK299.out (by decide)) e_) e_) (fun e_ => (fun e_ => (Kd.R_ne HO_315005.out BK299.out (by decide)) e_) e_))); have _ := aM (blk_kept (kA BK314.out) hkp (fun hs_ => Or.elim hs_ (fun e_ => (fun e_ => (Kd.R_ne HO_315004.out BK314.out (by decide)) e_) e_) (fun e_ => (fun e_ => (Kd.R_ne HO_315005.out BK314.out (by decide)) e_) e_))); have _ := aM (hb); clear HO_300004 HO_300005 HO_315004 HO_315005 BK299 BK314 HB; rename_i HO_300004 HO_300005 HO_315004 HO_315005 BK299 BK314 HB; (try clear hb); (try clear hkp); (try clear hy0); (try clear hy1); obtain ⟨hcz69_0, hfz69_0, hcz69_1, hfz69_1, hcz69_2, hfz69_2, hcz69_3, hfz69_3, hcz69_4, hfz69_4, hcz69_5, hfz69_5⟩ := bk6 BK314.out) | ((with_reducible refine gate_callee (f := 19) rfl ?_); refine goesL_ (some 64) rfl rfl Try.func19 (by kernel_rfl) rfl #[.agg #[.int .i64 t303, .int .i64 t304, .int .i64 t305, .int .i64 t306, .slice Ao21 t324.length co21, .slice Ao22 t325.length co22], .int .i64 1] rfl (by (try simp only [List.map_toArray, List.map_cons, List.map_nil]); first | done | (rw [show t324.length = t307.length from (Kd.R_reads' HO_315004.out).1.symm, show t325.length = t310.length from (Kd.R_reads' HO_315005.out).1.symm] <;> rfl) | rfl | (simp only [List.length_drop, List.length_take]; rfl)) ?_; (with_reducible refine (laws_heldResp.calls kj37 t303 t304 t305 t306 _ _ t324 _ _ t325 1 t326 _ ?side1 ?side2 ?side3 ?side4 A55.out).mono ?_); (case side1 => exact cR HO_315004.out); (case side2 => rw [show t324.length = t307.length from (Kd.R_reads' HO_315004.out).1.symm]; exact (Kd.R_reads' HO_315004.out).2.1); (case side3 => exact cR HO_315005.out); (case side4 => rw [show t325.length = t310.length from (Kd.R_reads' HO_315005.out).1.symm]; exact (Kd.R_reads' HO_315005.out).2.1); rintro e w70 ⟨rfl, hb⟩; refine ⟨_, rfl, ?_⟩; have _ := aM (rB HO_300004.out hb); have _ := aM (rB HO_300005.out hb); have _ := aM (rB HO_315004.out hb); have _ := aM (rB HO_315005.out hb); have _ := aM (kB BK299.out hb); have _ := aM (kB BK314.out hb); have _ := aM (below_step (bS HB.out) hb); clear HO_300004 HO_300005 HO_315004 HO_315005 BK299 BK314 HB; rename_i HO_300004 HO_300005 HO_315004 HO_315005 BK299 BK314 HB; (try clear hb)) | ((with_reducible refine gate_callee (f := 17) rfl ?_); refine gL (some 72) rfl rfl Try.func17 (by kernel_rfl) rfl #[.slice A0 l0.length c0] rfl ?_; (with_reducible refine (laws_toByteS.calls kj37 _ _ l0 t327 _ ?side1 ?side2 A63.out).mono ?_); (case side1 => exact cB HR0.out HB.out); (case side2 => exact HC0.out); rintro e w71 ⟨v328, rfl, ho0, hb⟩; refine ⟨_, rfl, ?_⟩; have _ := aM (rB HO_300004.out hb); have _ := aM (rB HO_300005.out hb); have _ := aM (rB HO_315004.out hb); have _ := aM (rB HO_315005.out hb); have _ := aM (Kd.R_lower ho0 (below_size (bS HB.out))); have _ := aM (kB BK299.out hb); have _ := aM (kB BK314.out hb); have _ := aM (below_step (bS HB.out) hb); clear HO_300004 HO_300005 HO_315004 HO_315005 BK299 BK314 HB; rename_i HO_300004 HO_300005 HO_315004 HO_315005 HO329 BK299 BK314 HB; (try clear hb); (try clear ho0); obtain ⟨Ao72, co72, eo72⟩ := Kd.R_slice HO329.out; subst eo72) | ((with_reducible refine gate_callee (f := 18) rfl ?_); refine gL (some 73) rfl rfl Try.func18 (by kernel_rfl) rfl #[.slice Ao72 t327.length co72] rfl ?_; (with_reducible refine (impl_GetResp.calls kj37 _ _ t327 t330 t331 t332 t333 t334 t337 t340 _ ?side1 ?side2 A64.out).mono ?_); (case side1 => exact cR HO329.out); (case side2 => exact (Kd.R_reads' HO329.out).2.1); rintro e w73 ⟨v335, v338, rfl, ho0, ho1, hb⟩; refine ⟨_, rfl, ?_⟩; have _ := aM (Kd.R_elder' (rA HO_300004.out) (Kd.R_base ho0) hb); have _ := aM (Kd.R_elder' (rA HO_300005.out) (Kd.R_base ho1) hb); have _ := aM (Kd.R_elder' (rA HO_315004.out) (Kd.R_base ho0) hb); have _ := aM (Kd.R_elder' (rA HO_315005.out) (Kd.R_base ho1) hb); have _ := aM (rB HO329.out hb); have _ := aM (Kd.R_lower (Kd.R_new' (Kd.R_new' ho0 (Kd.R_lt (rA HO_300004.out))) (Kd.R_lt (rA HO_315004.out))) (below_size (bS HB.out))); have _ := aM (Kd.R_lower (Kd.R_new' (Kd.R_new' ho1 (Kd.R_lt (rA HO_300005.out))) (Kd.R_lt (rA HO_315005.out))) (below_size (bS HB.out))); have _ := aM (kB BK299.out hb); have _ := aM (kB BK314.out hb); have _ := aM (below_step (bS HB.out) hb); clear HO_300004 HO_300005 HO_315004 HO_315005 HO329 BK299 BK314 HB; rename_i HO_300004 HO_300005 HO_315004 HO_315005 HO329 HO336 HO339 BK299 BK314 HB; (try clear hb); (try clear ho0); (try clear ho1)) | ((with_reducible refine gate_dst (N := 11) rfl ?_); refine box_event ?hg (N := 11) ?hd (cs := #[.int .i64 0, .int .i64 0, .int .i64 0, .int .i64 0, .slice none 0 0, .slice none 0 0]) (t := 29) ?hr ?_; (case hd => rfl); (case hg => rfl); (case hr => first | (go_simp; done) | (go_simp; rfl)); intro gb341 hg w74 hbox hb; have _ := aM (rB HO_300004.out hb); have _ := aM (rB HO_300005.out hb); have _ := aM (rB HO_315004.out hb); have _ := aM (rB HO_315005.out hb); have _ := aM (rB HO329.out hb); have _ := aM (rB HO336.out hb); have _ := aM (rB HO339.out hb); have _ := aM (kB BK299.out hb); have _ := aM (kB BK314.out hb); have _ := aM (below_step (bS HB.out) hb); have _ := aM (hbox); have _ := aM (leG hg (bS HB.out)); have _ := aM (leG hg (bS HB.out)); have _ := aM (neL hg (kA BK299.out)); have _ := aM (neG hg (kA BK299.out)); have _ := aM (neL hg (kA BK314.out)); have _ := aM (neG hg (kA BK314.out)); clear HO_300004 HO_300005 HO_315004 HO_315005 HO329 HO336 HO339 BK299 BK314 HB; rename_i HO_300004 HO_300005 HO_315004 HO_315005 HO329 HO336 HO339 BK299 BK314 HB BK341 GW341 GE341 NB299_341 NB341_299 NB314_341 NB341_314; clear hb hbox hg; have hnb75 := NB341_299.out; have hnc75 := NB299_341.out; have hnb76 := NB341_314.out; have hnc76 := NB314_341.out; obtain ⟨hcz77_0, hfz77_0, hcz77_1, hfz77_1, hcz77_2, hfz77_2, hcz77_3, hfz77_3, hcz77_4, hfz77_4, hcz77_5, hfz77_5⟩ := bk6 BK341.out; obtain ⟨Ao78, co78, eo78⟩ := Kd.R_slice HO336.out; subst eo78; obtain ⟨Ao79, co79, eo79⟩ := Kd.R_slice HO339.out; subst eo79))
           (try simp only [Act.put, List.setIfInBounds_toArray, List.set_cons_zero, List.set_cons_succ])
           go_cut [84] (fun v84 wc => ∃ (kq : Nat) (x84_64 : Bool), v84 = .bool x84_64 ∧ Aside0 (laws_FnExactGetResp.j2 kq t323 x84_64 t303 t304 t305 t306 t324 t325 = some r) ∧ Aside0 (kq ≤ kj37) ∧ Aside0 (Kd.R (Kd.int .i64) 3 wc w.heap.size (fun k_ => some k_ ≠ ((.slice Ao21 t307.length co21) : Value).ownBlock ∧ some k_ ≠ ((.slice Ao78 t334.length co78) : Value).ownBlock) (.slice Ao13 t292.length co13) t292) ∧ Aside0 (Kd.R Kd.bool 4 wc w.heap.size (fun k_ => some k_ ≠ ((.slice Ao22 t310.length co22) : Value).ownBlock ∧ some k_ ≠ ((.slice Ao79 t337.length co79) : Value).ownBlock) (.slice Ao14 t295.length co14) t295) ∧ Aside0 (Kd.R (Kd.int .i64) 3 wc w.heap.size (fun k_ => some k_ ≠ ((.slice Ao13 t292.length co13) : Value).ownBlock ∧ some k_ ≠ ((.slice Ao78 t334.length co78) : Value).ownBlock) (.slice Ao21 t307.length co21) t324) ∧ Aside0 (Kd.R Kd.bool 4 wc w.heap.size (fun k_ => some k_ ≠ ((.slice Ao14 t295.length co14) : Value).ownBlock ∧ some k_ ≠ ((.slice Ao79 t337.length co79) : Value).ownBlock) (.slice Ao22 t310.length co22) t325) ∧ Aside0 (Kd.R (Kd.int .i64) 3 wc w.heap.size (fun k_ => some k_ ≠ ((.slice Ao13 t292.length co13) : Value).ownBlock ∧ some k_ ≠ ((.slice Ao21 t307.length co21) : Value).ownBlock) (.slice Ao78 t334.length co78) t334) ∧ Aside0 (Kd.R Kd.bool 4 wc w.heap.size (fun k_ => some k_ ≠ ((.slice Ao14 t295.length co14) : Value).ownBlock ∧ some k_ ≠ ((.slice Ao22 t310.length co22) : Value).ownBlock) (.slice Ao79 t337.length co79) t337) ∧ Aside0 (wc.heap[gb299]? = some (.cells #[.int .i64 t288, .int .i64 t289, .int .i64 t290, .int .i64 t291, (.slice Ao13 t292.length co13), (.slice Ao14 t295.length co14)] 29 (0, 0))) ∧ Aside0 (wc.heap[gb314]? = some (.cells #[.int .i64 t303, .int .i64 t304, .int .i64 t305, .int .i64 t306, (.slice Ao21 t307.length co21), (.slice Ao22 t310.length co22)] 29 (0, 0))) ∧ Aside0 (wc.heap[gb341]? = some (.cells #[.int .i64 t330, .int .i64 t331, .int .i64 t332, .int .i64 t333, (.slice Ao78 t334.length co78), (.slice Ao79 t337.length co79)] 29 (0, 0))) ∧ Aside0 (Below w.heap.size w wc))
           case first =>
            have H := HC65.out
            clear HC65
            replace H := Option.bind_eq_some_iff.mp H
            obtain ⟨t342, A800, H⟩ := H
            replace H : (if t342 = true then (laws_FnExactGetResp.j2 kj37 t323 (t340 != t298) t303 t304 t305 t306 t324 t325) else (laws_FnExactGetResp.j2 kj37 t323 true t303 t304 t305 t306 t324 t325)) = some r := H
            have A80 := aM A800
            clear A800
            by_cases c81 : t342 = true
            ·subst c81
             have H1 : (laws_FnExactGetResp.j2 kj37 t323 (t340 != t298) t303 t304 t305 t306 t324 t325) = some r := by rw [if_pos rfl] at H; exact H
             clear H
             have H := H1
             clear H1
             have H' := aM H
             clear H
             have hnb82 := NB341_299.out
             have hnc82 := NB299_341.out
             have hnb83 := NB341_314.out
             have hnc83 := NB314_341.out
             obtain ⟨hcz84_0, hfz84_0, hcz84_1, hfz84_1, hcz84_2, hfz84_2, hcz84_3, hfz84_3, hcz84_4, hfz84_4, hcz84_5, hfz84_5⟩ := bk6 BK341.out
             have hnb85 := NB299_314.out
             have hnc85 := NB314_299.out
             obtain ⟨hcz86_0, hfz86_0, hcz86_1, hfz86_1, hcz86_2, hfz86_2, hcz86_3, hfz86_3, hcz86_4, hfz86_4, hcz86_5, hfz86_5⟩ := bk6 BK299.out
             go_wp2_with (first | ((with_reducible refine gate_callee (f := 12) rfl ?_); refine gL (some 78) rfl rfl Try.func12 (by kernel_rfl) rfl #[.agg #[.int .i64 t330, .int .i64 t331, .int .i64 t332, .int .i64 t333, .slice Ao78 t334.length co78, .slice Ao79 t337.length co79], .agg #[.int .i64 t288, .int .i64 t289, .int .i64 t290, .int .i64 t291, .slice Ao13 t292.length co13, .slice Ao14 t295.length co14]] rfl ?_; (with_reducible refine (laws_eqResp.calls kj37 t330 t331 t332 t333 _ _ t334 _ _ t337 t288 t289 t290 t291 _ _ t292 _ _ t295 true _ ?side1 ?side2 ?side3 ?side4 ?side5 ?side6 ?side7 ?side8 A80.out).mono ?_); (case side1 => exact (Kd.R_reads' (rF6 HO336.out BK341.out)).2.2); (case side2 => exact (Kd.R_reads' HO336.out).2.1); (case side3 => exact (Kd.R_reads' (rF6 HO339.out BK341.out)).2.2); (case side4 => exact (Kd.R_reads' HO339.out).2.1); (case side5 => exact (Kd.R_reads' (rF6 HO_300004.out BK341.out)).2.2); (case side6 => exact (Kd.R_reads' HO_300004.out).2.1); (case side7 => exact (Kd.R_reads' (rF6 HO_300005.out BK341.out)).2.2); (case side8 => exact (Kd.R_reads' HO_300005.out).2.1); rintro e w87 ⟨rfl, hb⟩; refine ⟨_, rfl, ?_⟩; have _ := aM (Kd.R_below (rF6 HO_300004.out BK341.out) hb); have _ := aM (Kd.R_below (rF6 HO_300005.out BK341.out) hb); have _ := aM (Kd.R_below (rF6 HO_315004.out BK341.out) hb); have _ := aM (Kd.R_below (rF6 HO_315005.out BK341.out) hb); have _ := aM (Kd.R_below (rF6 HO329.out BK341.out) hb); have _ := aM (Kd.R_below (rF6 HO336.out BK341.out) hb); have _ := aM (Kd.R_below (rF6 HO339.out BK341.out) hb); have _ := aM (blk_below (kF6 BK299.out NB299_341.out) hb); have _ := aM (blk_below (kF6 BK314.out NB314_341.out) hb); have _ := aM (blk_below (kP6 BK341.out) hb); have _ := aM (below_step (bS HB.out) hb); clear HO_300004 HO_300005 HO_315004 HO_315005 HO329 HO336 HO339 BK299 BK314 BK341 HB; rename_i HO_300004 HO_300005 HO_315004 HO_315005 HO329 HO336 HO339 BK299 BK314 BK341 HB; (try clear hb)))
             go_meet
             case rel => exact ⟨_, ((t340 != t298)), (by first | rfl | (simp; done) | (simp [*]; done)), H', ⟨by have := HJ6.out; have := HJ37.out; first | omega | exact Nat.le_refl _⟩, ⟨by (with_reducible repeat (first | apply Kd.R_alloc | apply Kd.R_drewN | apply Kd.R_drew)); exact HO_300004.out⟩, ⟨by (with_reducible repeat (first | apply Kd.R_alloc | apply Kd.R_drewN | apply Kd.R_drew)); exact HO_300005.out⟩, ⟨by (with_reducible repeat (first | apply Kd.R_alloc | apply Kd.R_drewN | apply Kd.R_drew)); exact HO_315004.out⟩, ⟨by (with_reducible repeat (first | apply Kd.R_alloc | apply Kd.R_drewN | apply Kd.R_drew)); exact HO_315005.out⟩, ⟨rA (rN HO336.out)⟩, ⟨rA (rN HO339.out)⟩, ⟨kX BK299.out⟩, ⟨kX BK314.out⟩, ⟨kX BK341.out⟩, ⟨bS HB.out⟩⟩
            ·replace c81 := Bool.eq_false_iff.mpr c81
             subst c81
             have H1 : (laws_FnExactGetResp.j2 kj37 t323 true t303 t304 t305 t306 t324 t325) = some r := by rw [if_neg (show ¬ (false = true) by decide)] at H; exact H
             clear H
             have H := H1
             clear H1
             have H' := aM H
             clear H
             have hnb88 := NB341_299.out
             have hnc88 := NB299_341.out
             have hnb89 := NB341_314.out
             have hnc89 := NB314_341.out
             obtain ⟨hcz90_0, hfz90_0, hcz90_1, hfz90_1, hcz90_2, hfz90_2, hcz90_3, hfz90_3, hcz90_4, hfz90_4, hcz90_5, hfz90_5⟩ := bk6 BK341.out
             have hnb91 := NB299_314.out
             have hnc91 := NB314_299.out
             obtain ⟨hcz92_0, hfz92_0, hcz92_1, hfz92_1, hcz92_2, hfz92_2, hcz92_3, hfz92_3, hcz92_4, hfz92_4, hcz92_5, hfz92_5⟩ := bk6 BK299.out
             go_wp2_with (first | ((with_reducible refine gate_callee (f := 12) rfl ?_); refine gL (some 78) rfl rfl Try.func12 (by kernel_rfl) rfl #[.agg #[.int .i64 t330, .int .i64 t331, .int .i64 t332, .int .i64 t333, .slice Ao78 t334.length co78, .slice Ao79 t337.length co79], .agg #[.int .i64 t288, .int .i64 t289, .int .i64 t290, .int .i64 t291, .slice Ao13 t292.length co13, .slice Ao14 t295.length co14]] rfl ?_; (with_reducible refine (laws_eqResp.calls kj37 t330 t331 t332 t333 _ _ t334 _ _ t337 t288 t289 t290 t291 _ _ t292 _ _ t295 false _ ?side1 ?side2 ?side3 ?side4 ?side5 ?side6 ?side7 ?side8 A80.out).mono ?_); (case side1 => exact (Kd.R_reads' (rF6 HO336.out BK341.out)).2.2); (case side2 => exact (Kd.R_reads' HO336.out).2.1); (case side3 => exact (Kd.R_reads' (rF6 HO339.out BK341.out)).2.2); (case side4 => exact (Kd.R_reads' HO339.out).2.1); (case side5 => exact (Kd.R_reads' (rF6 HO_300004.out BK341.out)).2.2); (case side6 => exact (Kd.R_reads' HO_300004.out).2.1); (case side7 => exact (Kd.R_reads' (rF6 HO_300005.out BK341.out)).2.2); (case side8 => exact (Kd.R_reads' HO_300005.out).2.1); rintro e w93 ⟨rfl, hb⟩; refine ⟨_, rfl, ?_⟩; have _ := aM (Kd.R_below (rF6 HO_300004.out BK341.out) hb); have _ := aM (Kd.R_below (rF6 HO_300005.out BK341.out) hb); have _ := aM (Kd.R_below (rF6 HO_315004.out BK341.out) hb); have _ := aM (Kd.R_below (rF6 HO_315005.out BK341.out) hb); have _ := aM (Kd.R_below (rF6 HO329.out BK341.out) hb); have _ := aM (Kd.R_below (rF6 HO336.out BK341.out) hb); have _ := aM (Kd.R_below (rF6 HO339.out BK341.out) hb); have _ := aM (blk_below (kF6 BK299.out NB299_341.out) hb); have _ := aM (blk_below (kF6 BK314.out NB314_341.out) hb); have _ := aM (blk_below (kP6 BK341.out) hb); have _ := aM (below_step (bS HB.out) hb); clear HO_300004 HO_300005 HO_315004 HO_315005 HO329 HO336 HO339 BK299 BK314 BK341 HB; rename_i HO_300004 HO_300005 HO_315004 HO_315005 HO329 HO336 HO339 BK299 BK314 BK341 HB; (try clear hb)))
             go_meet
             case rel => exact ⟨_, (true), (by first | rfl | (simp; done) | (simp [*]; done)), H', ⟨by have := HJ6.out; have := HJ37.out; first | omega | exact Nat.le_refl _⟩, ⟨by (with_reducible repeat (first | apply Kd.R_alloc | apply Kd.R_drewN | apply Kd.R_drew)); exact HO_300004.out⟩, ⟨by (with_reducible repeat (first | apply Kd.R_alloc | apply Kd.R_drewN | apply Kd.R_drew)); exact HO_300005.out⟩, ⟨by (with_reducible repeat (first | apply Kd.R_alloc | apply Kd.R_drewN | apply Kd.R_drew)); exact HO_315004.out⟩, ⟨by (with_reducible repeat (first | apply Kd.R_alloc | apply Kd.R_drewN | apply Kd.R_drew)); exact HO_315005.out⟩, ⟨rA (rN HO336.out)⟩, ⟨rA (rN HO339.out)⟩, ⟨kX BK299.out⟩, ⟨kX BK314.out⟩, ⟨kX BK341.out⟩, ⟨bS HB.out⟩⟩
           case rest =>
            clear HC65
            try clear c1
            try clear c2
            try clear c2b0
            try clear c2b1
            try clear p2
            try clear c3
            try clear c4
            try clear c11
            try clear c12
            try clear c14
            try clear c16
            try clear c17
            try clear c18
            try clear c19
            try clear c24
            try clear c25
            try clear c29
            try clear c33
            try clear c36
            try clear c42
            try clear c42b0
            try clear c44
            try clear c45
            try clear c49
            try clear c53
            try clear c56
            try clear c56b0
            try clear c62
            try clear c62b0
            try clear c62b1
            try clear hcz12_0
            try clear hcz12_1
            try clear hcz12_2
            try clear hcz12_3
            try clear hcz12_4
            try clear hcz12_5
            try clear hcz20_0
            try clear hcz20_1
            try clear hcz20_2
            try clear hcz20_3
            try clear hcz20_4
            try clear hcz20_5
            try clear hcz26_0
            try clear hcz26_1
            try clear hcz26_2
            try clear hcz26_3
            try clear hcz26_4
            try clear hcz26_5
            try clear hcz27_0
            try clear hcz27_1
            try clear hcz27_2
            try clear hcz27_3
            try clear hcz27_4
            try clear hcz27_5
            try clear hcz30_0
            try clear hcz30_1
            try clear hcz30_2
            try clear hcz30_3
            try clear hcz30_4
            try clear hcz30_5
            try clear hcz31_0
            try clear hcz31_1
            try clear hcz31_2
            try clear hcz31_3
            try clear hcz31_4
            try clear hcz31_5
            try clear hcz46_0
            try clear hcz46_1
            try clear hcz46_2
            try clear hcz46_3
            try clear hcz46_4
            try clear hcz46_5
            try clear hcz47_0
            try clear hcz47_1
            try clear hcz47_2
            try clear hcz47_3
            try clear hcz47_4
            try clear hcz47_5
            try clear hcz50_0
            try clear hcz50_1
            try clear hcz50_2
            try clear hcz50_3
            try clear hcz50_4
            try clear hcz50_5
            try clear hcz51_0
            try clear hcz51_1
            try clear hcz51_2
            try clear hcz51_3
            try clear hcz51_4
            try clear hcz51_5
            try clear hcz58_0
            try clear hcz58_1
            try clear hcz58_2
            try clear hcz58_3
            try clear hcz58_4
            try clear hcz58_5
            try clear hcz60_0
            try clear hcz60_1
            try clear hcz60_2
            try clear hcz60_3
            try clear hcz60_4
            try clear hcz60_5
            try clear hcz67_0
            try clear hcz67_1
            try clear hcz67_2
            try clear hcz67_3
            try clear hcz67_4
            try clear hcz67_5
            try clear hcz69_0
            try clear hcz69_1
            try clear hcz69_2
            try clear hcz69_3
            try clear hcz69_4
            try clear hcz69_5
            try clear hcz77_0
            try clear hcz77_1
            try clear hcz77_2
            try clear hcz77_3
            try clear hcz77_4
            try clear hcz77_5
            try clear hfz12_0
            try clear hfz12_1
            try clear hfz12_2
            try clear hfz12_3
            try clear hfz12_4
            try clear hfz12_5
            try clear hfz20_0
            try clear hfz20_1
            try clear hfz20_2
            try clear hfz20_3
            try clear hfz20_4
            try clear hfz20_5
            try clear hfz26_0
            try clear hfz26_1
            try clear hfz26_2
            try clear hfz26_3
            try clear hfz26_4
            try clear hfz26_5
            try clear hfz27_0
            try clear hfz27_1
            try clear hfz27_2
            try clear hfz27_3
            try clear hfz27_4
            try clear hfz27_5
            try clear hfz30_0
            try clear hfz30_1
            try clear hfz30_2
            try clear hfz30_3
            try clear hfz30_4
            try clear hfz30_5
            try clear hfz31_0
            try clear hfz31_1
            try clear hfz31_2
            try clear hfz31_3
            try clear hfz31_4
            try clear hfz31_5
            try clear hfz46_0
            try clear hfz46_1
            try clear hfz46_2
            try clear hfz46_3
            try clear hfz46_4
            try clear hfz46_5
            try clear hfz47_0
            try clear hfz47_1
            try clear hfz47_2
            try clear hfz47_3
            try clear hfz47_4
            try clear hfz47_5
            try clear hfz50_0
            try clear hfz50_1
            try clear hfz50_2
            try clear hfz50_3
            try clear hfz50_4
            try clear hfz50_5
            try clear hfz51_0
            try clear hfz51_1
            try clear hfz51_2
            try clear hfz51_3
            try clear hfz51_4
            try clear hfz51_5
            try clear hfz58_0
            try clear hfz58_1
            try clear hfz58_2
            try clear hfz58_3
            try clear hfz58_4
            try clear hfz58_5
            try clear hfz60_0
            try clear hfz60_1
            try clear hfz60_2
            try clear hfz60_3
            try clear hfz60_4
            try clear hfz60_5
            try clear hfz67_0
            try clear hfz67_1
            try clear hfz67_2
            try clear hfz67_3
            try clear hfz67_4
            try clear hfz67_5
            try clear hfz69_0
            try clear hfz69_1
            try clear hfz69_2
            try clear hfz69_3
            try clear hfz69_4
            try clear hfz69_5
            try clear hfz77_0
            try clear hfz77_1
            try clear hfz77_2
            try clear hfz77_3
            try clear hfz77_4
            try clear hfz77_5
            try clear p2
            obtain ⟨kq, x84_64, rfl, HA, HJ64, HO_300004, HO_300005, HO_315004, HO_315005, HO_342004, HO_342005, BK299, BK314, BK341, HB⟩ := hcut
            have hl315004_64 := (Kd.R_reads' HO_315004.out).1
            rw [hl315004_64] at HO_315004
            (try simp only [hl315004_64])
            (try simp only [hl315004_64] at BK299)
            (try simp only [hl315004_64] at BK314)
            (try simp only [hl315004_64] at BK341)
            (try simp only [hl315004_64] at HO_300004)
            (try simp only [hl315004_64] at HO_300005)
            (try simp only [hl315004_64] at HO_315005)
            (try simp only [hl315004_64] at HO_342004)
            (try simp only [hl315004_64] at HO_342005)
            have hl315005_64 := (Kd.R_reads' HO_315005.out).1
            rw [hl315005_64] at HO_315005
            (try simp only [hl315005_64])
            (try simp only [hl315005_64] at BK299)
            (try simp only [hl315005_64] at BK314)
            (try simp only [hl315005_64] at BK341)
            (try simp only [hl315005_64] at HO_300004)
            (try simp only [hl315005_64] at HO_300005)
            (try simp only [hl315005_64] at HO_315004)
            (try simp only [hl315005_64] at HO_342004)
            (try simp only [hl315005_64] at HO_342005)
            cases kq with
            | zero => exact absurd HA.out (by simp [laws_FnExactGetResp.j2])
            | succ kj64 =>
             have H := HA.out
             clear HA
             simp only [laws_FnExactGetResp.j2] at H
             by_cases c94 : x84_64 = true
             ·subst c94
              have H1 : (some false) = some r := by rw [if_pos rfl] at H; exact H
              clear H
              have H := H1
              clear H1
              obtain rfl := Option.some.inj H
              go_wp2
              go_ret
              exact ⟨by first | rfl | (simp [errW_none, errW_some] <;> rfl) | (simp [*, errW_none, errW_some] <;> rfl), bS HB.out⟩
             ·replace c94 := Bool.eq_false_iff.mpr c94
              subst c94
              have H1 : ((laws_heldResp.f kj64 t303 t304 t305 t306 t324 t325 1).bind fun t343 => (if t343 < 0 then (some false) else (if t343 = t323 then (some true) else (some false)))) = some r := by rw [if_neg (show ¬ (false = true) by decide)] at H; exact H
              clear H
              have H := H1
              clear H1
              replace H := Option.bind_eq_some_iff.mp H
              obtain ⟨t343, A950, H⟩ := H
              replace H : (if t343 < 0 then (some false) else (if t343 = t323 then (some true) else (some false))) = some r := H
              have A95 := aM A950
              clear A950
              by_cases c96 : t343 < 0
              ·rw [if_pos c96] at H
               have c96b0 : decide (t343 < 0) = true := decide_eq_true c96
               clear c96
               obtain rfl := Option.some.inj H
               have hnb97 := NB314_299.out
               have hnc97 := NB299_314.out
               have hnb98 := NB314_341.out
               have hnc98 := NB341_314.out
               obtain ⟨hcz99_0, hfz99_0, hcz99_1, hfz99_1, hcz99_2, hfz99_2, hcz99_3, hfz99_3, hcz99_4, hfz99_4, hcz99_5, hfz99_5⟩ := bk6 BK314.out
               go_wp2_with (first | ((with_reducible refine gate_callee (f := 19) rfl ?_); refine gL (some 87) rfl rfl Try.func19 (by kernel_rfl) rfl #[.agg #[.int .i64 t303, .int .i64 t304, .int .i64 t305, .int .i64 t306, .slice Ao21 t324.length co21, .slice Ao22 t325.length co22], .int .i64 1] rfl ?_; (with_reducible refine (laws_heldResp.calls kj64 t303 t304 t305 t306 _ _ t324 _ _ t325 1 t343 _ ?side1 ?side2 ?side3 ?side4 A95.out).mono ?_); (case side1 => exact cR HO_315004.out); (case side2 => exact (Kd.R_reads' HO_315004.out).2.1); (case side3 => exact cR HO_315005.out); (case side4 => exact (Kd.R_reads' HO_315005.out).2.1); rintro e w100 ⟨rfl, hb⟩; refine ⟨_, rfl, ?_⟩; have _ := aM (rB HO_300004.out hb); have _ := aM (rB HO_300005.out hb); have _ := aM (rB HO_315004.out hb); have _ := aM (rB HO_315005.out hb); have _ := aM (rB HO_342004.out hb); have _ := aM (rB HO_342005.out hb); have _ := aM (kB BK299.out hb); have _ := aM (kB BK314.out hb); have _ := aM (kB BK341.out hb); have _ := aM (below_step (bS HB.out) hb); clear HO_300004 HO_300005 HO_315004 HO_315005 HO_342004 HO_342005 BK299 BK314 BK341 HB; rename_i HO_300004 HO_300005 HO_315004 HO_315005 HO_342004 HO_342005 BK299 BK314 BK341 HB; (try clear hb)))
               go_ret
               exact ⟨by first | rfl | (simp [errW_none, errW_some] <;> rfl) | (simp [*, errW_none, errW_some] <;> rfl), bS HB.out⟩
              ·rw [if_neg c96] at H
               have c96b0 : decide (t343 < 0) = false := decide_eq_false c96
               clear c96
               by_cases c101 : t343 = t323
               ·rw [if_pos c101] at H
                have c101b0 : (t343 == t323) = true := beq_iff_eq.mpr c101
                have c101b1 : (t343 != t323) = false := bne_eq_false_iff_eq.mpr c101
                clear c101
                obtain rfl := Option.some.inj H
                have hnb102 := NB314_299.out
                have hnc102 := NB299_314.out
                have hnb103 := NB314_341.out
                have hnc103 := NB341_314.out
                obtain ⟨hcz104_0, hfz104_0, hcz104_1, hfz104_1, hcz104_2, hfz104_2, hcz104_3, hfz104_3, hcz104_4, hfz104_4, hcz104_5, hfz104_5⟩ := bk6 BK314.out
                go_wp2_with (first | ((with_reducible refine gate_callee (f := 19) rfl ?_); refine gL (some 87) rfl rfl Try.func19 (by kernel_rfl) rfl #[.agg #[.int .i64 t303, .int .i64 t304, .int .i64 t305, .int .i64 t306, .slice Ao21 t324.length co21, .slice Ao22 t325.length co22], .int .i64 1] rfl ?_; (with_reducible refine (laws_heldResp.calls kj64 t303 t304 t305 t306 _ _ t324 _ _ t325 1 t343 _ ?side1 ?side2 ?side3 ?side4 A95.out).mono ?_); (case side1 => exact cR HO_315004.out); (case side2 => exact (Kd.R_reads' HO_315004.out).2.1); (case side3 => exact cR HO_315005.out); (case side4 => exact (Kd.R_reads' HO_315005.out).2.1); rintro e w105 ⟨rfl, hb⟩; refine ⟨_, rfl, ?_⟩; have _ := aM (rB HO_300004.out hb); have _ := aM (rB HO_300005.out hb); have _ := aM (rB HO_315004.out hb); have _ := aM (rB HO_315005.out hb); have _ := aM (rB HO_342004.out hb); have _ := aM (rB HO_342005.out hb); have _ := aM (kB BK299.out hb); have _ := aM (kB BK314.out hb); have _ := aM (kB BK341.out hb); have _ := aM (below_step (bS HB.out) hb); clear HO_300004 HO_300005 HO_315004 HO_315005 HO_342004 HO_342005 BK299 BK314 BK341 HB; rename_i HO_300004 HO_300005 HO_315004 HO_315005 HO_342004 HO_342005 BK299 BK314 BK341 HB; (try clear hb)))
                go_ret
                exact ⟨by first | rfl | (simp [errW_none, errW_some] <;> rfl) | (simp [*, errW_none, errW_some] <;> rfl), bS HB.out⟩
               ·rw [if_neg c101] at H
                have c101b0 : (t343 == t323) = false := beq_eq_false_iff_ne.mpr c101
                have c101b1 : (t343 != t323) = true := bne_iff_ne.mpr c101
                obtain rfl := Option.some.inj H
                have hnb106 := NB314_299.out
                have hnc106 := NB299_314.out
                have hnb107 := NB314_341.out
                have hnc107 := NB341_314.out
                obtain ⟨hcz108_0, hfz108_0, hcz108_1, hfz108_1, hcz108_2, hfz108_2, hcz108_3, hfz108_3, hcz108_4, hfz108_4, hcz108_5, hfz108_5⟩ := bk6 BK314.out
                go_wp2_with (first | ((with_reducible refine gate_callee (f := 19) rfl ?_); refine gL (some 87) rfl rfl Try.func19 (by kernel_rfl) rfl #[.agg #[.int .i64 t303, .int .i64 t304, .int .i64 t305, .int .i64 t306, .slice Ao21 t324.length co21, .slice Ao22 t325.length co22], .int .i64 1] rfl ?_; (with_reducible refine (laws_heldResp.calls kj64 t303 t304 t305 t306 _ _ t324 _ _ t325 1 t343 _ ?side1 ?side2 ?side3 ?side4 A95.out).mono ?_); (case side1 => exact cR HO_315004.out); (case side2 => exact (Kd.R_reads' HO_315004.out).2.1); (case side3 => exact cR HO_315005.out); (case side4 => exact (Kd.R_reads' HO_315005.out).2.1); rintro e w109 ⟨rfl, hb⟩; refine ⟨_, rfl, ?_⟩; have _ := aM (rB HO_300004.out hb); have _ := aM (rB HO_300005.out hb); have _ := aM (rB HO_315004.out hb); have _ := aM (rB HO_315005.out hb); have _ := aM (rB HO_342004.out hb); have _ := aM (rB HO_342005.out hb); have _ := aM (kB BK299.out hb); have _ := aM (kB BK314.out hb); have _ := aM (kB BK341.out hb); have _ := aM (below_step (bS HB.out) hb); clear HO_300004 HO_300005 HO_315004 HO_315005 HO_342004 HO_342005 BK299 BK314 BK341 HB; rename_i HO_300004 HO_300005 HO_315004 HO_315005 HO_342004 HO_342005 BK299 BK314 BK341 HB; (try clear hb)))
                go_ret
                exact ⟨by first | rfl | (simp [errW_none, errW_some] <;> rfl) | (simp [*, errW_none, errW_some] <;> rfl), bS HB.out⟩
          ·rw [if_neg c62] at H
           have c62b0 : (t326 == t323) = false := beq_eq_false_iff_ne.mpr c62
           have c62b1 : (t326 != t323) = true := bne_iff_ne.mpr c62
           obtain rfl := Option.some.inj H
           have hnb110 := NB314_299.out
           have hnc110 := NB299_314.out
           obtain ⟨hcz111_0, hfz111_0, hcz111_1, hfz111_1, hcz111_2, hfz111_2, hcz111_3, hfz111_3, hcz111_4, hfz111_4, hcz111_5, hfz111_5⟩ := bk6 BK314.out
           go_wp2_with (first | ((with_reducible refine gate_callee (f := 13) rfl ?_); refine gL (some 61) rfl rfl Try.func13 (by kernel_rfl) rfl #[.agg #[.int .i64 t303, .int .i64 t304, .int .i64 t305, .int .i64 t306, .slice Ao21 t307.length co21, .slice Ao22 t310.length co22], .int .i64 1] rfl ?_; (with_reducible refine (laws_markResp.calls kj37 t303 t304 t305 t306 (fun k_ => some k_ = (.slice Ao21 t307.length co21 : Value).ownBlock) (.slice Ao21 t307.length co21) t307 (fun k_ => some k_ = (.slice Ao22 t310.length co22 : Value).ownBlock) (.slice Ao22 t310.length co22) t310 1 t323 t324 t325 w _ ?side1 ?side2 ?side3 A54.out).mono ?_); (case side1 => repeat (first | (with_reducible first | exact HB.out | apply below_alloc | apply pw_below_drewN | apply below_drew1 | refine below_set ?_ GE299.out | refine below_set ?_ GE314.out) | exact HB.out)); (case side2 => exact Kd.R_tight rfl HO_315004.out); (case side3 => exact Kd.R_tight rfl HO_315005.out); rintro e w112 ⟨rfl, hy0, hy1, hb, hkp⟩; refine ⟨_, rfl, ?_⟩; have _ := aM (Kd.R_mono (ok' := fun k_ => some k_ ≠ (.slice Ao21 t307.length co21 : Value).ownBlock) (Kd.R_keptB ((Kd.R_apart' HO_300004.out (Kd.R_typed HO_315005.out) (by decide))) hkp (fun k_ hk_ hs_ => by first | exact Or.elim hs_ (fun e_ => (hk_.1) e_) (fun e_ => (hk_.2) e_) | (rcases hs_ with e_ | e_ <;> simp [e_] at hk_))) (fun k_ hk_ => hk_.1.1)); have _ := aM (Kd.R_mono (ok' := fun k_ => some k_ ≠ (.slice Ao22 t310.length co22 : Value).ownBlock) (Kd.R_keptB ((Kd.R_apart' HO_300005.out (Kd.R_typed HO_315004.out) (by decide))) hkp (fun k_ hk_ hs_ => by first | exact Or.elim hs_ (fun e_ => (hk_.2) e_) (fun e_ => (hk_.1) e_) | (rcases hs_ with e_ | e_ <;> simp [e_] at hk_))) (fun k_ hk_ => hk_.1.1)); have _ := aM (Kd.R_reok rfl hy0 (fun k_ e_ => HO_315004.out.1 k_ e_)); have _ := aM (Kd.R_reok rfl hy1 (fun k_ e_ => HO_315005.out.1 k_ e_)); have _ := aM (blk_kept (kA BK299.out) hkp (fun hs_ => Or.elim hs_ (fun e_ => (fun e_ => (Kd.R_ne HO_315004.out BK299.out (by decide)) e_) e_) (fun e_ => (fun e_ => (Kd.R_ne HO_315005.out BK299.out (by decide)) e_) e_))); have _ := aM (blk_kept (kA BK314.out) hkp (fun hs_ => Or.elim hs_ (fun e_ => (fun e_ => (Kd.R_ne HO_315004.out BK314.out (by decide)) e_) e_) (fun e_ => (fun e_ => (Kd.R_ne HO_315005.out BK314.out (by decide)) e_) e_))); have _ := aM (hb); clear HO_300004 HO_300005 HO_315004 HO_315005 BK299 BK314 HB; rename_i HO_300004 HO_300005 HO_315004 HO_315005 BK299 BK314 HB; (try clear hb); (try clear hkp); (try clear hy0); (try clear hy1); obtain ⟨hcz113_0, hfz113_0, hcz113_1, hfz113_1, hcz113_2, hfz113_2, hcz113_3, hfz113_3, hcz113_4, hfz113_4, hcz113_5, hfz113_5⟩ := bk6 BK314.out) | ((with_reducible refine gate_callee (f := 19) rfl ?_); refine goesL_ (some 64) rfl rfl Try.func19 (by kernel_rfl) rfl #[.agg #[.int .i64 t303, .int .i64 t304, .int .i64 t305, .int .i64 t306, .slice Ao21 t324.length co21, .slice Ao22 t325.length co22], .int .i64 1] rfl (by (try simp only [List.map_toArray, List.map_cons, List.map_nil]); first | done | (rw [show t324.length = t307.length from (Kd.R_reads' HO_315004.out).1.symm, show t325.length = t310.length from (Kd.R_reads' HO_315005.out).1.symm] <;> rfl) | rfl | (simp only [List.length_drop, List.length_take]; rfl)) ?_; (with_reducible refine (laws_heldResp.calls kj37 t303 t304 t305 t306 _ _ t324 _ _ t325 1 t326 _ ?side1 ?side2 ?side3 ?side4 A55.out).mono ?_); (case side1 => exact cR HO_315004.out); (case side2 => rw [show t324.length = t307.length from (Kd.R_reads' HO_315004.out).1.symm]; exact (Kd.R_reads' HO_315004.out).2.1); (case side3 => exact cR HO_315005.out); (case side4 => rw [show t325.length = t310.length from (Kd.R_reads' HO_315005.out).1.symm]; exact (Kd.R_reads' HO_315005.out).2.1); rintro e w114 ⟨rfl, hb⟩; refine ⟨_, rfl, ?_⟩; have _ := aM (rB HO_300004.out hb); have _ := aM (rB HO_300005.out hb); have _ := aM (rB HO_315004.out hb); have _ := aM (rB HO_315005.out hb); have _ := aM (kB BK299.out hb); have _ := aM (kB BK314.out hb); have _ := aM (below_step (bS HB.out) hb); clear HO_300004 HO_300005 HO_315004 HO_315005 BK299 BK314 HB; rename_i HO_300004 HO_300005 HO_315004 HO_315005 BK299 BK314 HB; (try clear hb)))
           go_ret
           exact ⟨by first | rfl | (simp [errW_none, errW_some] <;> rfl) | (simp [*, errW_none, errW_some] <;> rfl), bS HB.out⟩
     ·replace c36 := Bool.eq_false_iff.mpr c36
      subst c36
      have H1 : (some false) = some r := by rw [if_neg (show ¬ (false = true) by decide)] at H; exact H
      clear H
      have H := H1
      clear H1
      obtain rfl := Option.some.inj H
      go_wp2_with (first | ((with_reducible refine gate_callee (f := 17) rfl ?_); refine gL (some 40) rfl rfl Try.func17 (by kernel_rfl) rfl #[.slice A0 l0.length c0] rfl ?_; (with_reducible refine (laws_toByteS.calls kj6 _ _ l0 t316 _ ?side1 ?side2 A34.out).mono ?_); (case side1 => exact cB HR0.out HB.out); (case side2 => exact HC0.out); rintro e w115 ⟨v317, rfl, ho0, hb⟩; refine ⟨_, rfl, ?_⟩; have _ := aM (Kd.R_elder' (rA HO_5.out) (Kd.R_base ho0) hb); have _ := aM (rB HO_300004.out hb); have _ := aM (rB HO_300005.out hb); have _ := aM (rB HO_315004.out hb); have _ := aM (rB HO_315005.out hb); have _ := aM (Kd.R_lower (Kd.R_new' ho0 (Kd.R_lt (rA HO_5.out))) (below_size (bS HB.out))); have _ := aM (kB BK299.out hb); have _ := aM (kB BK314.out hb); have _ := aM (below_step (bS HB.out) hb); clear HO_5 HO_300004 HO_300005 HO_315004 HO_315005 BK299 BK314 HB; rename_i HO_5 HO_300004 HO_300005 HO_315004 HO_315005 HO318 BK299 BK314 HB; (try clear hb); (try clear ho0); obtain ⟨Ao116, co116, eo116⟩ := Kd.R_slice HO318.out; subst eo116) | ((with_reducible refine gate_callee (f := 11) rfl ?_); refine gL (some 41) rfl rfl Try.func11 (by kernel_rfl) rfl #[.slice Ao16 t300.length co16, .slice Ao116 t316.length co116] rfl ?_; (with_reducible refine (laws_eqByteS.calls kj6 _ _ t300 _ _ t316 false _ ?side1 ?side2 ?side3 ?side4 A35.out).mono ?_); (case side1 => exact cR HO_5.out); (case side2 => exact (Kd.R_reads' HO_5.out).2.1); (case side3 => exact cR HO318.out); (case side4 => exact (Kd.R_reads' HO318.out).2.1); rintro e w' ⟨rfl, ⟨nd, rfl⟩⟩; refine ⟨_, rfl, ?_⟩))
      go_ret
      exact ⟨by first | rfl | (simp [errW_none, errW_some] <;> rfl) | (simp [*, errW_none, errW_some] <;> rfl), bS HB.out⟩

end Go.Proofs.Ytfiplepbmennbaa.PFnExactGetResp
