/- Functions and contracts of the law FnRings: what the Go text computes, step by step. -/
import Derived.Test.YtnikdfcdddlfbaaL
import Derived.Test.YtnikdfcdddlfbaaQFnRingsx0
import Derived.Test.YtnikdfcdddlfbaaQFnRingsx1
import Derived.Test.YtnikdfcdddlfbaaQFnRingsx2
namespace Go.Proofs.Ytnikdfcdddlfbaa.PFnRings
open Go.Proofs.Ytnikdfcdddlfbaa.K Go.Proofs.Ytnikdfcdddlfbaa.G Go.RowKit Go.Proofs.YtnikdfcdddlfbaaW.PrintWords Go.Proofs.YtnikdfcdddlfbaaW.PrintLast Go.Proofs.YtnikdfcdddlfbaaW.PrintMore
attribute [local go_sem] max2_int min2_int max_two min_two max_three min_three max_four min_four   -- for this text's walks alone
set_option linter.unusedVariables false
set_option linter.unusedSimpArgs false

/-! ### laws_FnRings: function 13 -/
def laws_FnRings.f (k : Nat) (l0 : List Int) : Option (Bool) := (laws_big.f l0).bind fun t210 => (if t210 = true then (some true) else ((spec_DrawRingPut.f k l0).bind fun bt211 => ((impl_RingPut.f bt211.1 bt211.2).bind fun bt218 => ((spec_RingOk.f bt211.1).bind fun t223 => (if t223 = true then ((laws_at.f l0 2).bind fun t225 => ((impl_RingTake.f bt218.1 (Int.tmod t225 20)).bind fun bt226 => ((impl_RingTake.f bt226.2 300).bind fun bt233 => ((some (([] : List Int) : List Int)).bind fun y240 => (if y240.length + bt226.1.length < 140737488355328 then ((some (y240 ++ bt226.1 : List Int)).bind fun y243 => (if y243.length + bt233.1.length < 140737488355328 then ((some (([] : List Int) : List Int)).bind fun y249 => (if y249.length + bt211.1.length < 140737488355328 then ((some (y249 ++ bt211.1 : List Int)).bind fun y252 => (if 0 ≤ (wrap64 ((bt211.2.length : Int) - bt218.2)) then (if (wrap64 ((bt211.2.length : Int) - bt218.2)) ≤ (bt211.2.length : Int) then ((some (bt211.2.take ((wrap64 ((bt211.2.length : Int) - bt218.2)) : Int).toNat : List Int)).bind fun y255 => (if y252.length + y255.length < 140737488355328 then ((impl_RingOk.f bt218.1).bind fun t262 => (if t262 = true then ((laws_sameBytes.f k (y243 ++ bt233.1) (y252 ++ y255)).bind fun t263 => (if t263 = true then (if (bt233.2.length : Int) = 0 then (if bt218.2 = 0 then (some true) else (some ((bt218.1.length : Int) == 300))) else (some false)) else (some false))) else (some false))) else (none))) else (none)) else (none))) else (none))) else (none))) else (none)))))) else (if bt218.2 = (bt211.2.length : Int) then ((impl_RingOk.f bt211.1).bind fun t224 => (some (!t224))) else (some false)))))))
theorem laws_FnRings.mono : ∀ a0 k, LeO (laws_FnRings.f k a0) (laws_FnRings.f (k + 1) a0) := by
 intro a0 k
 unfold laws_FnRings.f
 repeat' first
   | (with_reducible exact laws_sameBytes.mono _ _ _)
   | (with_reducible exact spec_DrawRingPut.mono _ _)
   | (with_reducible exact LeO.refl _)
   | (with_reducible exact LeO.none _)
   | (with_reducible refine LeO.ite ?_ ?_)
   | (with_reducible refine LeO.bind ?_ (fun _ => ?_))
   | exact laws_sameBytes.mono _ _ _
   | exact spec_DrawRingPut.mono _ _
   | exact LeO.none _
   | refine LeO.ite ?_ ?_
   | refine LeO.bind ?_ (fun _ => ?_)
def laws_FnRings.T11 : Bool × List (List Nat × List Nat) := (true, [([], []), ([], []), ([1], [1]), ([0, 2], [0, 2]), ([], []), ([], []), ([5], [5]), ([], []), ([6, 7], [6, 7]), ([4, 8], [4, 8]), ([3, 9, 3], [3, 9]), ([10, 10, 0, 1, 2, 3, 4, 5, 6, 7, 8, 9, 10], [10])])
def laws_FnRings.B11 : List Nat := [0, 0, 2, 7, 0, 0, 32, 0, 224, 496, 1023, 2047]
theorem laws_FnRings.tab11 : rtab .any (opsOf Try.f13 11) = laws_FnRings.T11 := by kernel_rfl
theorem laws_FnRings.bits11 : waitsOk laws_FnRings.T11.2 laws_FnRings.B11 = true := by kernel_rfl
set_option maxHeartbeats 8000000 in
set_option maxRecDepth 100000 in
theorem laws_FnRings.calls (k : Nat) (A0 : Option Addr) (c0 : Nat) (l0 : List Int) (r : Bool) (w : World) (hr0 : Kd.C (Kd.int .u8) w A0 l0.length l0) (hc0 : l0.length ≤ c0) (h : laws_FnRings.f k l0 = some r) :
  Calls Try.prog 13 #[.slice A0 l0.length c0] w fun e w' => e = .returned (.bool r) ∧ Below w.heap.size w w' := by
 have hu27 := Try.underlying27
 have HR0 := aM hr0
 have HC0 := aM hc0
 clear hr0 hc0
 have HB := aM (Below.refl w.heap.size w)
 have H : ((laws_big.f l0).bind fun t210 => (if t210 = true then (some true) else ((spec_DrawRingPut.f k l0).bind fun bt211 => ((impl_RingPut.f bt211.1 bt211.2).bind fun bt218 => ((spec_RingOk.f bt211.1).bind fun t223 => (if t223 = true then ((laws_at.f l0 2).bind fun t225 => ((impl_RingTake.f bt218.1 (Int.tmod t225 20)).bind fun bt226 => ((impl_RingTake.f bt226.2 300).bind fun bt233 => ((some (([] : List Int) : List Int)).bind fun y240 => (if y240.length + bt226.1.length < 140737488355328 then ((some (y240 ++ bt226.1 : List Int)).bind fun y243 => (if y243.length + bt233.1.length < 140737488355328 then ((some (([] : List Int) : List Int)).bind fun y249 => (if y249.length + bt211.1.length < 140737488355328 then ((some (y249 ++ bt211.1 : List Int)).bind fun y252 => (if 0 ≤ (wrap64 ((bt211.2.length : Int) - bt218.2)) then (if (wrap64 ((bt211.2.length : Int) - bt218.2)) ≤ (bt211.2.length : Int) then ((some (bt211.2.take ((wrap64 ((bt211.2.length : Int) - bt218.2)) : Int).toNat : List Int)).bind fun y255 => (if y252.length + y255.length < 140737488355328 then ((impl_RingOk.f bt218.1).bind fun t262 => (if t262 = true then ((laws_sameBytes.f k (y243 ++ bt233.1) (y252 ++ y255)).bind fun t263 => (if t263 = true then (if (bt233.2.length : Int) = 0 then (if bt218.2 = 0 then (some true) else (some ((bt218.1.length : Int) == 300))) else (some false)) else (some false))) else (some false))) else (none))) else (none)) else (none))) else (none))) else (none))) else (none)))))) else (if bt218.2 = (bt211.2.length : Int) then ((impl_RingOk.f bt211.1).bind fun t224 => (some (!t224))) else (some false)))))))) = some r := h
 clear h
 replace H := Option.bind_eq_some_iff.mp H
 obtain ⟨t210, A20, H⟩ := H
 replace H : (if t210 = true then (some true) else ((spec_DrawRingPut.f k l0).bind fun bt211 => ((impl_RingPut.f bt211.1 bt211.2).bind fun bt218 => ((spec_RingOk.f bt211.1).bind fun t223 => (if t223 = true then ((laws_at.f l0 2).bind fun t225 => ((impl_RingTake.f bt218.1 (Int.tmod t225 20)).bind fun bt226 => ((impl_RingTake.f bt226.2 300).bind fun bt233 => ((some (([] : List Int) : List Int)).bind fun y240 => (if y240.length + bt226.1.length < 140737488355328 then ((some (y240 ++ bt226.1 : List Int)).bind fun y243 => (if y243.length + bt233.1.length < 140737488355328 then ((some (([] : List Int) : List Int)).bind fun y249 => (if y249.length + bt211.1.length < 140737488355328 then ((some (y249 ++ bt211.1 : List Int)).bind fun y252 => (if 0 ≤ (wrap64 ((bt211.2.length : Int) - bt218.2)) then (if (wrap64 ((bt211.2.length : Int) - bt218.2)) ≤ (bt211.2.length : Int) then ((some (bt211.2.take ((wrap64 ((bt211.2.length : Int) - bt218.2)) : Int).toNat : List Int)).bind fun y255 => (if y252.length + y255.length < 140737488355328 then ((impl_RingOk.f bt218.1).bind fun t262 => (if t262 = true then ((laws_sameBytes.f k (y243 ++ bt233.1) (y252 ++ y255)).bind fun t263 => (if t263 = true then (if (bt233.2.length : Int) = 0 then (if bt218.2 = 0 then (some true) else (some ((bt218.1.length : Int) == 300))) else (some false)) else (some false))) else (some false))) else (none))) else (none)) else (none))) else (none))) else (none))) else (none)))))) else (if bt218.2 = (bt211.2.length : Int) then ((impl_RingOk.f bt211.1).bind fun t224 => (some (!t224))) else (some false))))))) = some r := H
 have A2 := aM A20
 clear A20
 by_cases c3 : t210 = true
 ·subst c3
  have H1 : (some true) = some r := by rw [if_pos rfl] at H; exact H
  clear H
  have H := H1
  clear H1
  obtain rfl := Option.some.inj H
  go_enter Try.func13, Try.ntmps13
  go_wp2_with (first | ((with_reducible refine gate_callee (f := 22) rfl ?_); refine gL (some 15) rfl rfl Try.func22 (by kernel_rfl) rfl #[.slice A0 l0.length c0] rfl ?_; (with_reducible refine (laws_big.calls _ _ l0 true _ ?side1 ?side2 A2.out).mono ?_); (case side1 => repeat (first | exact HR0.out | (with_reducible refine Kd.C_alloc ?_ _) | (with_reducible refine Kd.C_drewN ?_ _) | (with_reducible refine Kd.C_drew ?_))); (case side2 => exact HC0.out); rintro e w' ⟨rfl, ⟨nd, rfl⟩⟩; refine ⟨_, rfl, ?_⟩))
  go_ret
  exact ⟨by first | rfl | (simp [errW_none, errW_some] <;> rfl) | (simp [*, errW_none, errW_some] <;> rfl), bS HB.out⟩
 ·replace c3 := Bool.eq_false_iff.mpr c3
  subst c3
  have H1 : ((spec_DrawRingPut.f k l0).bind fun bt211 => ((impl_RingPut.f bt211.1 bt211.2).bind fun bt218 => ((spec_RingOk.f bt211.1).bind fun t223 => (if t223 = true then ((laws_at.f l0 2).bind fun t225 => ((impl_RingTake.f bt218.1 (Int.tmod t225 20)).bind fun bt226 => ((impl_RingTake.f bt226.2 300).bind fun bt233 => ((some (([] : List Int) : List Int)).bind fun y240 => (if y240.length + bt226.1.length < 140737488355328 then ((some (y240 ++ bt226.1 : List Int)).bind fun y243 => (if y243.length + bt233.1.length < 140737488355328 then ((some (([] : List Int) : List Int)).bind fun y249 => (if y249.length + bt211.1.length < 140737488355328 then ((some (y249 ++ bt211.1 : List Int)).bind fun y252 => (if 0 ≤ (wrap64 ((bt211.2.length : Int) - bt218.2)) then (if (wrap64 ((bt211.2.length : Int) - bt218.2)) ≤ (bt211.2.length : Int) then ((some (bt211.2.take ((wrap64 ((bt211.2.length : Int) - bt218.2)) : Int).toNat : List Int)).bind fun y255 => (if y252.length + y255.length < 140737488355328 then ((impl_RingOk.f bt218.1).bind fun t262 => (if t262 = true then ((laws_sameBytes.f k (y243 ++ bt233.1) (y252 ++ y255)).bind fun t263 => (if t263 = true then (if (bt233.2.length : Int) = 0 then (if bt218.2 = 0 then (some true) else (some ((bt218.1.length : Int) == 300))) else (some false)) else (some false))) else (some false))) else (none))) else (none)) else (none))) else (none))) else (none))) else (none)))))) else (if bt218.2 = (bt211.2.length : Int) then ((impl_RingOk.f bt211.1).bind fun t224 => (some (!t224))) else (some false)))))) = some r := by rw [if_neg (show ¬ (false = true) by decide)] at H; exact H
  clear H
  have H := H1
  clear H1
  replace H := Option.bind_eq_some_iff.mp H
  obtain ⟨⟨t211, t214⟩, A40, H⟩ := H
  replace H : ((impl_RingPut.f t211 t214).bind fun bt218 => ((spec_RingOk.f t211).bind fun t223 => (if t223 = true then ((laws_at.f l0 2).bind fun t225 => ((impl_RingTake.f bt218.1 (Int.tmod t225 20)).bind fun bt226 => ((impl_RingTake.f bt226.2 300).bind fun bt233 => ((some (([] : List Int) : List Int)).bind fun y240 => (if y240.length + bt226.1.length < 140737488355328 then ((some (y240 ++ bt226.1 : List Int)).bind fun y243 => (if y243.length + bt233.1.length < 140737488355328 then ((some (([] : List Int) : List Int)).bind fun y249 => (if y249.length + t211.length < 140737488355328 then ((some (y249 ++ t211 : List Int)).bind fun y252 => (if 0 ≤ (wrap64 ((t214.length : Int) - bt218.2)) then (if (wrap64 ((t214.length : Int) - bt218.2)) ≤ (t214.length : Int) then ((some (t214.take ((wrap64 ((t214.length : Int) - bt218.2)) : Int).toNat : List Int)).bind fun y255 => (if y252.length + y255.length < 140737488355328 then ((impl_RingOk.f bt218.1).bind fun t262 => (if t262 = true then ((laws_sameBytes.f k (y243 ++ bt233.1) (y252 ++ y255)).bind fun t263 => (if t263 = true then (if (bt233.2.length : Int) = 0 then (if bt218.2 = 0 then (some true) else (some ((bt218.1.length : Int) == 300))) else (some false)) else (some false))) else (some false))) else (none))) else (none)) else (none))) else (none))) else (none))) else (none)))))) else (if bt218.2 = (t214.length : Int) then ((impl_RingOk.f t211).bind fun t224 => (some (!t224))) else (some false))))) = some r := H
  have A4 := aM A40
  clear A40
  replace H := Option.bind_eq_some_iff.mp H
  obtain ⟨⟨t218, t221⟩, A50, H⟩ := H
  replace H : ((spec_RingOk.f t211).bind fun t223 => (if t223 = true then ((laws_at.f l0 2).bind fun t225 => ((impl_RingTake.f t218 (Int.tmod t225 20)).bind fun bt226 => ((impl_RingTake.f bt226.2 300).bind fun bt233 => ((some (([] : List Int) : List Int)).bind fun y240 => (if y240.length + bt226.1.length < 140737488355328 then ((some (y240 ++ bt226.1 : List Int)).bind fun y243 => (if y243.length + bt233.1.length < 140737488355328 then ((some (([] : List Int) : List Int)).bind fun y249 => (if y249.length + t211.length < 140737488355328 then ((some (y249 ++ t211 : List Int)).bind fun y252 => (if 0 ≤ (wrap64 ((t214.length : Int) - t221)) then (if (wrap64 ((t214.length : Int) - t221)) ≤ (t214.length : Int) then ((some (t214.take ((wrap64 ((t214.length : Int) - t221)) : Int).toNat : List Int)).bind fun y255 => (if y252.length + y255.length < 140737488355328 then ((impl_RingOk.f t218).bind fun t262 => (if t262 = true then ((laws_sameBytes.f k (y243 ++ bt233.1) (y252 ++ y255)).bind fun t263 => (if t263 = true then (if (bt233.2.length : Int) = 0 then (if t221 = 0 then (some true) else (some ((t218.length : Int) == 300))) else (some false)) else (some false))) else (some false))) else (none))) else (none)) else (none))) else (none))) else (none))) else (none)))))) else (if t221 = (t214.length : Int) then ((impl_RingOk.f t211).bind fun t224 => (some (!t224))) else (some false)))) = some r := H
  have A5 := aM A50
  clear A50
  replace H := Option.bind_eq_some_iff.mp H
  obtain ⟨t223, A60, H⟩ := H
  replace H : (if t223 = true then ((laws_at.f l0 2).bind fun t225 => ((impl_RingTake.f t218 (Int.tmod t225 20)).bind fun bt226 => ((impl_RingTake.f bt226.2 300).bind fun bt233 => ((some (([] : List Int) : List Int)).bind fun y240 => (if y240.length + bt226.1.length < 140737488355328 then ((some (y240 ++ bt226.1 : List Int)).bind fun y243 => (if y243.length + bt233.1.length < 140737488355328 then ((some (([] : List Int) : List Int)).bind fun y249 => (if y249.length + t211.length < 140737488355328 then ((some (y249 ++ t211 : List Int)).bind fun y252 => (if 0 ≤ (wrap64 ((t214.length : Int) - t221)) then (if (wrap64 ((t214.length : Int) - t221)) ≤ (t214.length : Int) then ((some (t214.take ((wrap64 ((t214.length : Int) - t221)) : Int).toNat : List Int)).bind fun y255 => (if y252.length + y255.length < 140737488355328 then ((impl_RingOk.f t218).bind fun t262 => (if t262 = true then ((laws_sameBytes.f k (y243 ++ bt233.1) (y252 ++ y255)).bind fun t263 => (if t263 = true then (if (bt233.2.length : Int) = 0 then (if t221 = 0 then (some true) else (some ((t218.length : Int) == 300))) else (some false)) else (some false))) else (some false))) else (none))) else (none)) else (none))) else (none))) else (none))) else (none)))))) else (if t221 = (t214.length : Int) then ((impl_RingOk.f t211).bind fun t224 => (some (!t224))) else (some false))) = some r := H
  have A6 := aM A60
  clear A60
  by_cases c7 : t223 = true
  ·subst c7
   have H1 : ((laws_at.f l0 2).bind fun t225 => ((impl_RingTake.f t218 (Int.tmod t225 20)).bind fun bt226 => ((impl_RingTake.f bt226.2 300).bind fun bt233 => ((some (([] : List Int) : List Int)).bind fun y240 => (if y240.length + bt226.1.length < 140737488355328 then ((some (y240 ++ bt226.1 : List Int)).bind fun y243 => (if y243.length + bt233.1.length < 140737488355328 then ((some (([] : List Int) : List Int)).bind fun y249 => (if y249.length + t211.length < 140737488355328 then ((some (y249 ++ t211 : List Int)).bind fun y252 => (if 0 ≤ (wrap64 ((t214.length : Int) - t221)) then (if (wrap64 ((t214.length : Int) - t221)) ≤ (t214.length : Int) then ((some (t214.take ((wrap64 ((t214.length : Int) - t221)) : Int).toNat : List Int)).bind fun y255 => (if y252.length + y255.length < 140737488355328 then ((impl_RingOk.f t218).bind fun t262 => (if t262 = true then ((laws_sameBytes.f k (y243 ++ bt233.1) (y252 ++ y255)).bind fun t263 => (if t263 = true then (if (bt233.2.length : Int) = 0 then (if t221 = 0 then (some true) else (some ((t218.length : Int) == 300))) else (some false)) else (some false))) else (some false))) else (none))) else (none)) else (none))) else (none))) else (none))) else (none)))))) = some r := by rw [if_pos rfl] at H; exact H
   clear H
   have H := H1
   clear H1
   replace H := Option.bind_eq_some_iff.mp H
   obtain ⟨t225, A80, H⟩ := H
   replace H : ((impl_RingTake.f t218 (Int.tmod t225 20)).bind fun bt226 => ((impl_RingTake.f bt226.2 300).bind fun bt233 => ((some (([] : List Int) : List Int)).bind fun y240 => (if y240.length + bt226.1.length < 140737488355328 then ((some (y240 ++ bt226.1 : List Int)).bind fun y243 => (if y243.length + bt233.1.length < 140737488355328 then ((some (([] : List Int) : List Int)).bind fun y249 => (if y249.length + t211.length < 140737488355328 then ((some (y249 ++ t211 : List Int)).bind fun y252 => (if 0 ≤ (wrap64 ((t214.length : Int) - t221)) then (if (wrap64 ((t214.length : Int) - t221)) ≤ (t214.length : Int) then ((some (t214.take ((wrap64 ((t214.length : Int) - t221)) : Int).toNat : List Int)).bind fun y255 => (if y252.length + y255.length < 140737488355328 then ((impl_RingOk.f t218).bind fun t262 => (if t262 = true then ((laws_sameBytes.f k (y243 ++ bt233.1) (y252 ++ y255)).bind fun t263 => (if t263 = true then (if (bt233.2.length : Int) = 0 then (if t221 = 0 then (some true) else (some ((t218.length : Int) == 300))) else (some false)) else (some false))) else (some false))) else (none))) else (none)) else (none))) else (none))) else (none))) else (none))))) = some r := H
   have A8 := aM A80
   clear A80
   replace H := Option.bind_eq_some_iff.mp H
   obtain ⟨⟨t226, t229⟩, A90, H⟩ := H
   replace H : ((impl_RingTake.f t229 300).bind fun bt233 => ((some (([] : List Int) : List Int)).bind fun y240 => (if y240.length + t226.length < 140737488355328 then ((some (y240 ++ t226 : List Int)).bind fun y243 => (if y243.length + bt233.1.length < 140737488355328 then ((some (([] : List Int) : List Int)).bind fun y249 => (if y249.length + t211.length < 140737488355328 then ((some (y249 ++ t211 : List Int)).bind fun y252 => (if 0 ≤ (wrap64 ((t214.length : Int) - t221)) then (if (wrap64 ((t214.length : Int) - t221)) ≤ (t214.length : Int) then ((some (t214.take ((wrap64 ((t214.length : Int) - t221)) : Int).toNat : List Int)).bind fun y255 => (if y252.length + y255.length < 140737488355328 then ((impl_RingOk.f t218).bind fun t262 => (if t262 = true then ((laws_sameBytes.f k (y243 ++ bt233.1) (y252 ++ y255)).bind fun t263 => (if t263 = true then (if (bt233.2.length : Int) = 0 then (if t221 = 0 then (some true) else (some ((t218.length : Int) == 300))) else (some false)) else (some false))) else (some false))) else (none))) else (none)) else (none))) else (none))) else (none))) else (none)))) = some r := H
   have A9 := aM A90
   clear A90
   replace H := Option.bind_eq_some_iff.mp H
   obtain ⟨⟨t233, t236⟩, A100, H⟩ := H
   replace H : ((some (([] : List Int) : List Int)).bind fun y240 => (if y240.length + t226.length < 140737488355328 then ((some (y240 ++ t226 : List Int)).bind fun y243 => (if y243.length + t233.length < 140737488355328 then ((some (([] : List Int) : List Int)).bind fun y249 => (if y249.length + t211.length < 140737488355328 then ((some (y249 ++ t211 : List Int)).bind fun y252 => (if 0 ≤ (wrap64 ((t214.length : Int) - t221)) then (if (wrap64 ((t214.length : Int) - t221)) ≤ (t214.length : Int) then ((some (t214.take ((wrap64 ((t214.length : Int) - t221)) : Int).toNat : List Int)).bind fun y255 => (if y252.length + y255.length < 140737488355328 then ((impl_RingOk.f t218).bind fun t262 => (if t262 = true then ((laws_sameBytes.f k (y243 ++ t233) (y252 ++ y255)).bind fun t263 => (if t263 = true then (if (t236.length : Int) = 0 then (if t221 = 0 then (some true) else (some ((t218.length : Int) == 300))) else (some false)) else (some false))) else (some false))) else (none))) else (none)) else (none))) else (none))) else (none))) else (none))) = some r := H
   have A10 := aM A100
   clear A100
   obtain ⟨y240, hy240⟩ : ∃ y_ : List Int, y_ = (([] : List Int)) := ⟨_, rfl⟩
   replace H : (if y240.length + t226.length < 140737488355328 then ((some (y240 ++ t226 : List Int)).bind fun y243 => (if y243.length + t233.length < 140737488355328 then ((some (([] : List Int) : List Int)).bind fun y249 => (if y249.length + t211.length < 140737488355328 then ((some (y249 ++ t211 : List Int)).bind fun y252 => (if 0 ≤ (wrap64 ((t214.length : Int) - t221)) then (if (wrap64 ((t214.length : Int) - t221)) ≤ (t214.length : Int) then ((some (t214.take ((wrap64 ((t214.length : Int) - t221)) : Int).toNat : List Int)).bind fun y255 => (if y252.length + y255.length < 140737488355328 then ((impl_RingOk.f t218).bind fun t262 => (if t262 = true then ((laws_sameBytes.f k (y243 ++ t233) (y252 ++ y255)).bind fun t263 => (if t263 = true then (if (t236.length : Int) = 0 then (if t221 = 0 then (some true) else (some ((t218.length : Int) == 300))) else (some false)) else (some false))) else (some false))) else (none))) else (none)) else (none))) else (none))) else (none))) else (none)) = some r := by first | (rw [hy240]; with_reducible exact H) | (have H2_ := (Option.bind_some _ _).symm.trans H; rw [hy240]; with_reducible exact H2_) | (have H2_ := (Option.bind_some _ _).symm.trans H; with_reducible exact H2_) | with_reducible exact H | (rw [hy240]; exact H) | exact H
   have Ny240 := aM hy240
   clear hy240
   by_cases c11 : y240.length + t226.length < 140737488355328
   ·rw [if_pos c11] at H
    have LMc11 := aM c11
    clear c11
    obtain ⟨y243, hy243⟩ : ∃ y_ : List Int, y_ = (y240 ++ t226) := ⟨_, rfl⟩
    replace H : (if y243.length + t233.length < 140737488355328 then ((some (([] : List Int) : List Int)).bind fun y249 => (if y249.length + t211.length < 140737488355328 then ((some (y249 ++ t211 : List Int)).bind fun y252 => (if 0 ≤ (wrap64 ((t214.length : Int) - t221)) then (if (wrap64 ((t214.length : Int) - t221)) ≤ (t214.length : Int) then ((some (t214.take ((wrap64 ((t214.length : Int) - t221)) : Int).toNat : List Int)).bind fun y255 => (if y252.length + y255.length < 140737488355328 then ((impl_RingOk.f t218).bind fun t262 => (if t262 = true then ((laws_sameBytes.f k (y243 ++ t233) (y252 ++ y255)).bind fun t263 => (if t263 = true then (if (t236.length : Int) = 0 then (if t221 = 0 then (some true) else (some ((t218.length : Int) == 300))) else (some false)) else (some false))) else (some false))) else (none))) else (none)) else (none))) else (none))) else (none)) = some r := by first | (rw [hy243]; with_reducible exact H) | (have H2_ := (Option.bind_some _ _).symm.trans H; rw [hy243]; with_reducible exact H2_) | (have H2_ := (Option.bind_some _ _).symm.trans H; with_reducible exact H2_) | with_reducible exact H | (rw [hy243]; exact H) | exact H
    have Ny243 := aM hy243
    clear hy243
    by_cases c12 : y243.length + t233.length < 140737488355328
    ·rw [if_pos c12] at H
     have LMc12 := aM c12
     clear c12
     obtain ⟨y246, hy246⟩ : ∃ y_ : List Int, y_ = (y243 ++ t233) := ⟨_, rfl⟩
     replace H : ((some (([] : List Int) : List Int)).bind fun y249 => (if y249.length + t211.length < 140737488355328 then ((some (y249 ++ t211 : List Int)).bind fun y252 => (if 0 ≤ (wrap64 ((t214.length : Int) - t221)) then (if (wrap64 ((t214.length : Int) - t221)) ≤ (t214.length : Int) then ((some (t214.take ((wrap64 ((t214.length : Int) - t221)) : Int).toNat : List Int)).bind fun y255 => (if y252.length + y255.length < 140737488355328 then ((impl_RingOk.f t218).bind fun t262 => (if t262 = true then ((laws_sameBytes.f k y246 (y252 ++ y255)).bind fun t263 => (if t263 = true then (if (t236.length : Int) = 0 then (if t221 = 0 then (some true) else (some ((t218.length : Int) == 300))) else (some false)) else (some false))) else (some false))) else (none))) else (none)) else (none))) else (none))) = some r := by first | (rw [hy246]; with_reducible exact H) | (have H2_ := (Option.bind_some _ _).symm.trans H; rw [hy246]; with_reducible exact H2_) | (have H2_ := (Option.bind_some _ _).symm.trans H; with_reducible exact H2_) | with_reducible exact H | (rw [hy246]; exact H) | exact H
     have Ny246 := aM hy246
     clear hy246
     obtain ⟨y249, hy249⟩ : ∃ y_ : List Int, y_ = (([] : List Int)) := ⟨_, rfl⟩
     replace H : (if y249.length + t211.length < 140737488355328 then ((some (y249 ++ t211 : List Int)).bind fun y252 => (if 0 ≤ (wrap64 ((t214.length : Int) - t221)) then (if (wrap64 ((t214.length : Int) - t221)) ≤ (t214.length : Int) then ((some (t214.take ((wrap64 ((t214.length : Int) - t221)) : Int).toNat : List Int)).bind fun y255 => (if y252.length + y255.length < 140737488355328 then ((impl_RingOk.f t218).bind fun t262 => (if t262 = true then ((laws_sameBytes.f k y246 (y252 ++ y255)).bind fun t263 => (if t263 = true then (if (t236.length : Int) = 0 then (if t221 = 0 then (some true) else (some ((t218.length : Int) == 300))) else (some false)) else (some false))) else (some false))) else (none))) else (none)) else (none))) else (none)) = some r := by first | (rw [hy249]; with_reducible exact H) | (have H2_ := (Option.bind_some _ _).symm.trans H; rw [hy249]; with_reducible exact H2_) | (have H2_ := (Option.bind_some _ _).symm.trans H; with_reducible exact H2_) | with_reducible exact H | (rw [hy249]; exact H) | exact H
     have Ny249 := aM hy249
     clear hy249
     by_cases c13 : y249.length + t211.length < 140737488355328
     ·rw [if_pos c13] at H
      have LMc13 := aM c13
      clear c13
      obtain ⟨y252, hy252⟩ : ∃ y_ : List Int, y_ = (y249 ++ t211) := ⟨_, rfl⟩
      replace H : (if 0 ≤ (wrap64 ((t214.length : Int) - t221)) then (if (wrap64 ((t214.length : Int) - t221)) ≤ (t214.length : Int) then ((some (t214.take ((wrap64 ((t214.length : Int) - t221)) : Int).toNat : List Int)).bind fun y255 => (if y252.length + y255.length < 140737488355328 then ((impl_RingOk.f t218).bind fun t262 => (if t262 = true then ((laws_sameBytes.f k y246 (y252 ++ y255)).bind fun t263 => (if t263 = true then (if (t236.length : Int) = 0 then (if t221 = 0 then (some true) else (some ((t218.length : Int) == 300))) else (some false)) else (some false))) else (some false))) else (none))) else (none)) else (none)) = some r := by first | (rw [hy252]; with_reducible exact H) | (have H2_ := (Option.bind_some _ _).symm.trans H; rw [hy252]; with_reducible exact H2_) | (have H2_ := (Option.bind_some _ _).symm.trans H; with_reducible exact H2_) | with_reducible exact H | (rw [hy252]; exact H) | exact H
      have Ny252 := aM hy252
      clear hy252
      obtain ⟨ji14, hji14⟩ : ∃ j_ : Int, (wrap64 ((t214.length : Int) - t221)) = j_ := ⟨_, rfl⟩
      replace H : (if 0 ≤ (ji14) then (if (ji14) ≤ (t214.length : Int) then ((some (t214.take ((ji14) : Int).toNat : List Int)).bind fun y255 => (if y252.length + y255.length < 140737488355328 then ((impl_RingOk.f t218).bind fun t262 => (if t262 = true then ((laws_sameBytes.f k y246 (y252 ++ y255)).bind fun t263 => (if t263 = true then (if (t236.length : Int) = 0 then (if t221 = 0 then (some true) else (some ((t218.length : Int) == 300))) else (some false)) else (some false))) else (some false))) else (none))) else (none)) else (none)) = some r := by first | (rw [hji14] at H; exact H) | (simp only [hji14] at H ⊢; exact H)
      (try rw [hji14] at A2)
      (try rw [hji14] at A4)
      (try rw [hji14] at A5)
      (try rw [hji14] at A6)
      (try rw [hji14] at A8)
      (try rw [hji14] at A9)
      (try rw [hji14] at A10)
      have hji14w : (IntKind.i64.wrap ((t214.length : Int) - t221)) = ji14 := (i64_w _).trans hji14
      by_cases c15 : 0 ≤ (ji14)
      ·rw [if_pos c15] at H
       have c15b0 := eq_true c15
       have c15b1 : decide (0 ≤ (ji14)) = true := decide_eq_true c15
       clear c15
       by_cases c16 : (ji14) ≤ (t214.length : Int)
       ·rw [if_pos c16] at H
        have c16b0 := eq_true c16
        have c16b1 : decide ((ji14) ≤ (t214.length : Int)) = true := decide_eq_true c16
        clear c16
        obtain ⟨y255, hy255⟩ : ∃ y_ : List Int, y_ = (t214.take ((ji14) : Int).toNat) := ⟨_, rfl⟩
        replace H : (if y252.length + y255.length < 140737488355328 then ((impl_RingOk.f t218).bind fun t262 => (if t262 = true then ((laws_sameBytes.f k y246 (y252 ++ y255)).bind fun t263 => (if t263 = true then (if (t236.length : Int) = 0 then (if t221 = 0 then (some true) else (some ((t218.length : Int) == 300))) else (some false)) else (some false))) else (some false))) else (none)) = some r := by first | (rw [hy255]; with_reducible exact H) | (have H2_ := (Option.bind_some _ _).symm.trans H; rw [hy255]; with_reducible exact H2_) | (have H2_ := (Option.bind_some _ _).symm.trans H; with_reducible exact H2_) | with_reducible exact H | (rw [hy255]; exact H) | exact H
        have Ny255 := aM hy255
        clear hy255
        by_cases c17 : y252.length + y255.length < 140737488355328
        ·rw [if_pos c17] at H
         have LMc17 := aM c17
         clear c17
         obtain ⟨y259, hy259⟩ : ∃ y_ : List Int, y_ = (y252 ++ y255) := ⟨_, rfl⟩
         replace H : ((impl_RingOk.f t218).bind fun t262 => (if t262 = true then ((laws_sameBytes.f k y246 y259).bind fun t263 => (if t263 = true then (if (t236.length : Int) = 0 then (if t221 = 0 then (some true) else (some ((t218.length : Int) == 300))) else (some false)) else (some false))) else (some false))) = some r := by first | (rw [hy259]; with_reducible exact H) | (have H2_ := (Option.bind_some _ _).symm.trans H; rw [hy259]; with_reducible exact H2_) | (have H2_ := (Option.bind_some _ _).symm.trans H; with_reducible exact H2_) | with_reducible exact H | (rw [hy259]; exact H) | exact H
         have Ny259 := aM hy259
         clear hy259
         replace H := Option.bind_eq_some_iff.mp H
         obtain ⟨t262, A180, H⟩ := H
         replace H : (if t262 = true then ((laws_sameBytes.f k y246 y259).bind fun t263 => (if t263 = true then (if (t236.length : Int) = 0 then (if t221 = 0 then (some true) else (some ((t218.length : Int) == 300))) else (some false)) else (some false))) else (some false)) = some r := H
         have A18 := aM A180
         clear A180
         go_enter Try.func13, Try.ntmps13
         try go_wp2_with (first | ((with_reducible refine gate_callee (f := 22) rfl ?_); refine gL (some 15) rfl rfl Try.func22 (by kernel_rfl) rfl #[.slice A0 l0.length c0] rfl ?_; (with_reducible refine (laws_big.calls _ _ l0 false _ ?side1 ?side2 A2.out).mono ?_); (case side1 => repeat (first | exact HR0.out | (with_reducible refine Kd.C_alloc ?_ _) | (with_reducible refine Kd.C_drewN ?_ _) | (with_reducible refine Kd.C_drew ?_))); (case side2 => exact HC0.out); rintro e w' ⟨rfl, ⟨nd, rfl⟩⟩; refine ⟨_, rfl, ?_⟩) | ((with_reducible refine gate_callee (f := 64) rfl ?_); refine gL (some 18) rfl rfl Try.func64 (by kernel_rfl) rfl #[.slice A0 l0.length c0] rfl ?_; (with_reducible refine (spec_DrawRingPut.calls k _ _ l0 t211 t214 _ ?side1 ?side2 A4.out).mono ?_); (case side1 => repeat (first | exact HR0.out | (with_reducible refine Kd.C_alloc ?_ _) | (with_reducible refine Kd.C_drewN ?_ _) | (with_reducible refine Kd.C_drew ?_))); (case side2 => exact HC0.out); rintro e w24 ⟨v212, v215, rfl, ho0, ho1, hb⟩; refine ⟨_, rfl, ?_⟩; have _ := aM (Kd.R_lower ho0 (below_size (bS HB.out))); have _ := aM (Kd.R_lower ho1 (below_size (bS HB.out))); have _ := aM (below_step (bS HB.out) hb); clear HB; rename_i HO213 HO216 HB; (try clear hb); (try clear ho0); (try clear ho1)) | ((with_reducible refine gate_dst (N := 3) rfl ?_); (try (refine gate_guard (by rfl) ?_; dsimp only)); refine box_event ?hg (N := 3) ?hd (cs := #[.slice none 0 0]) (t := 27) ?hr ?_; (case hd => rfl); (case hg => rfl); (case hr => first | (go_simp; done) | (go_simp; rfl)); intro gb217 hg w25 hbox hb; have _ := aM (rB HO213.out hb); have _ := aM (rB HO216.out hb); have _ := aM (below_step (bS HB.out) hb); have _ := aM (hbox); have _ := aM (leG hg (bS HB.out)); have _ := aM (leG hg (bS HB.out)); clear HO213 HO216 HB; rename_i HO213 HO216 HB BK217 GW217 GE217; clear hb hbox hg; obtain ⟨Ao26, co26, eo26⟩ := Kd.R_slice HO213.out; subst eo26; obtain ⟨hcz27_0, hfz27_0⟩ := bk1 BK217.out) | ((with_reducible refine gate_store (t := 27) (p := 3) rfl ?_); refine store_event (t := 27) (p := 3) (v := ?vo_w28) (w1 := (w25.setCell ⟨gb217, 0, none⟩ (.slice Ao26 t211.length co26))) ?hg ?ho ?hn ?hr ?_; (case ho => rfl); (case hg => rfl); (case hn => rfl); (case hr => first | (go_simp; done) | (go_simp; rfl)); intro w28 hw; have n0_ : Aside0 (Kd.R (Kd.int .u8) 5 w28 w.heap.size (fun k_ => some k_ ≠ (v215 : Value).ownBlock) (.slice Ao26 t211.length co26) t211) := ⟨(by rw [hw]; exact (by (with_reducible repeat (first | apply Kd.R_alloc | apply Kd.R_drewN | apply Kd.R_drew)); exact Kd.R_mono (Kd.R_far (p := ⟨gb217, 0, none⟩) (Kd.R_types HO213.out BK217.out (by decide)) (fun _ hk => hk.2) (.slice Ao26 t211.length co26)) (fun _ hk => hk.1)))⟩; have n1_ : Aside0 (Kd.R (Kd.int .u8) 5 w28 w.heap.size (fun k_ => some k_ ≠ (.slice Ao26 t211.length co26 : Value).ownBlock) v215 t214) := ⟨(by rw [hw]; exact (by (with_reducible repeat (first | apply Kd.R_alloc | apply Kd.R_drewN | apply Kd.R_drew)); exact Kd.R_mono (Kd.R_far (p := ⟨gb217, 0, none⟩) (Kd.R_types HO216.out BK217.out (by decide)) (fun _ hk => hk.2) (.slice Ao26 t211.length co26)) (fun _ hk => hk.1)))⟩; have n2_ : Aside0 (w28.heap[gb217]? = some (.cells #[.slice Ao26 t211.length co26] 27 (0, 0))) := ⟨(by rw [hw]; exact (kP1 BK217.out))⟩; have n3_ : Aside0 (Below w.heap.size w w28) := ⟨(by rw [hw]; exact (bS HB.out))⟩; clear hw HO213 HO216 BK217 HB; have HO213 := n0_; have HO216 := n1_; have BK217 := n2_; have HB := n3_; clear n0_ n1_ n2_ n3_; obtain ⟨hcz29_0, hfz29_0⟩ := bk1 BK217.out; obtain ⟨Ao30, co30, eo30⟩ := Kd.R_slice HO216.out; subst eo30) | ((with_reducible refine gate_callee (f := 65) rfl ?_); refine gL (some 24) rfl rfl Try.func65 (by kernel_rfl) rfl #[.agg #[.slice Ao26 t211.length co26], .slice Ao30 t214.length co30] rfl ?_; (with_reducible refine (impl_RingPut.calls (fun k_ => some k_ = (.slice Ao26 t211.length co26 : Value).ownBlock) _ _ t211 (fun k_ => some k_ = (.slice Ao30 t214.length co30 : Value).ownBlock) _ _ t214 t218 t221 _ ?side1 ?side2 A5.out).mono ?_); (case side1 => exact Kd.R_V (Kd.R_tight rfl (Kd.R_types (HO213.out) BK217.out (by decide)))); (case side2 => exact Kd.R_V (Kd.R_tight rfl (Kd.R_types (HO216.out) BK217.out (by decide)))); rintro e w31 ⟨v219, rfl, ho0, hb⟩; refine ⟨_, rfl, ?_⟩; have _ := aM (Kd.R_elder' (rA HO213.out) (Kd.R_base ho0) hb); have _ := aM (Kd.R_elder' (rA HO216.out) (Kd.R_base ho0) hb); have _ := aM (Kd.R_lower (Kd.R_new' (Kd.R_new' (Kd.R_mono (ok' := fun k_ => True) ho0 (fun _ hk_ => trivial)) (Kd.R_lt (rA HO213.out))) (Kd.R_lt (rA HO216.out))) (below_size (bS HB.out))); have _ := aM (kB BK217.out hb); have _ := aM (below_step (bS HB.out) hb); clear HO213 HO216 BK217 HB; rename_i HO213 HO216 HO220 BK217 HB; (try clear hb); (try clear ho0)) | ((with_reducible refine gate_dst (N := 5) rfl ?_); (try (refine gate_guard (by rfl) ?_; dsimp only)); refine box_event ?hg (N := 5) ?hd (cs := #[.slice none 0 0]) (t := 27) ?hr ?_; (case hd => rfl); (case hg => rfl); (case hr => first | (go_simp; done) | (go_simp; rfl)); intro gb222 hg w32 hbox hb; have _ := aM (rB HO213.out hb); have _ := aM (rB HO216.out hb); have _ := aM (rB HO220.out hb); have _ := aM (kB BK217.out hb); have _ := aM (below_step (bS HB.out) hb); have _ := aM (hbox); have _ := aM (leG hg (bS HB.out)); have _ := aM (leG hg (bS HB.out)); have _ := aM (neL hg (kA BK217.out)); have _ := aM (neG hg (kA BK217.out)); clear HO213 HO216 HO220 BK217 HB; rename_i HO213 HO216 HO220 BK217 HB BK222 GW222 GE222 NB217_222 NB222_217; clear hb hbox hg; obtain ⟨Ao33, co33, eo33⟩ := Kd.R_slice HO220.out; subst eo33; have hnb34 := NB222_217.out; have hnc34 := NB217_222.out; obtain ⟨hcz35_0, hfz35_0⟩ := bk1 BK222.out; obtain ⟨hcz36_0, hfz36_0⟩ := bk1 BK217.out) | ((with_reducible refine gate_callee (f := 18) rfl ?_); refine gL (some 28) rfl rfl Try.func18 (by kernel_rfl) rfl #[.agg #[.slice Ao26 t211.length co26]] rfl ?_; (with_reducible refine (spec_RingOk.calls _ _ t211 true _ ?side1 ?side2 A6.out).mono ?_); (case side1 => exact (Kd.R_reads' (rF1 HO213.out BK222.out)).2.2); (case side2 => exact (Kd.R_reads' HO213.out).2.1); rintro e w37 ⟨rfl, hb⟩; refine ⟨_, rfl, ?_⟩; have _ := aM (Kd.R_below (rF1 HO213.out BK222.out) hb); have _ := aM (Kd.R_below (rF1 HO216.out BK222.out) hb); have _ := aM (Kd.R_below (rF1 HO220.out BK222.out) hb); have _ := aM (blk_below (kF1 BK217.out NB217_222.out) hb); have _ := aM (blk_below (kP1 BK222.out) hb); have _ := aM (below_step (bS HB.out) hb); clear HO213 HO216 HO220 BK217 BK222 HB; rename_i HO213 HO216 HO220 BK217 BK222 HB; (try clear hb)) | ((with_reducible refine gate_callee (f := 26) rfl ?_); refine gL (some 40) rfl rfl Try.func26 (by kernel_rfl) rfl #[.slice A0 l0.length c0, .int .i64 2] rfl ?_; (with_reducible refine (laws_at.calls _ _ l0 2 t225 _ ?side1 ?side2 A8.out).mono ?_); (case side1 => exact cB HR0.out HB.out); (case side2 => exact HC0.out); rintro e w' ⟨rfl, ⟨nd, rfl⟩⟩; refine ⟨_, rfl, ?_⟩; (try (rw [drewN_self w37]; generalize hq_ : World.drewN w37 _ = w37; have n0_ : Aside0 (Kd.R (Kd.int .u8) 5 w37 w.heap.size (fun k_ => some k_ ≠ (.slice Ao30 t214.length co30 : Value).ownBlock ∧ some k_ ≠ (.slice Ao33 t218.length co33 : Value).ownBlock) (.slice Ao26 t211.length co26) t211) := ⟨by rw [← hq_]; exact (rA HO213.out)⟩; have n1_ : Aside0 (Kd.R (Kd.int .u8) 5 w37 w.heap.size (fun k_ => some k_ ≠ (.slice Ao26 t211.length co26 : Value).ownBlock ∧ some k_ ≠ (.slice Ao33 t218.length co33 : Value).ownBlock) (.slice Ao30 t214.length co30) t214) := ⟨by rw [← hq_]; exact (rA HO216.out)⟩; have n2_ : Aside0 (Kd.R (Kd.int .u8) 5 w37 w.heap.size (fun k_ => some k_ ≠ (.slice Ao26 t211.length co26 : Value).ownBlock ∧ some k_ ≠ (.slice Ao30 t214.length co30 : Value).ownBlock) (.slice Ao33 t218.length co33) t218) := ⟨by rw [← hq_]; exact (by (with_reducible repeat (first | apply Kd.R_alloc | apply Kd.R_drewN | apply Kd.R_drew)); exact Kd.R_mono HO220.out (fun _ hk => by first | exact ⟨hk.1.2, hk.2⟩ | (simp only [ne_eq] at hk ⊢; simp [hk])))⟩; have n3_ : Aside0 (w37.heap[gb217]? = some (.cells #[.slice Ao26 t211.length co26] 27 (0, 0))) := ⟨by rw [← hq_]; exact (kA BK217.out)⟩; have n4_ : Aside0 (w37.heap[gb222]? = some (.cells #[.slice Ao33 t218.length co33] 27 (0, 0))) := ⟨by rw [← hq_]; exact (kA BK222.out)⟩; have n5_ : Aside0 (Below w.heap.size w w37) := ⟨by rw [← hq_]; exact (bS HB.out)⟩; clear HO213 HO216 HO220 BK217 BK222 HB hq_; have HO213 := n0_; have HO216 := n1_; have HO220 := n2_; have BK217 := n3_; have BK222 := n4_; have HB := n5_; clear n0_ n1_ n2_ n3_ n4_ n5_; have hcugb217_0 : w37.cell? ⟨gb217, 0, none⟩ = some (.slice Ao26 t211.length co26) := (blk_cell BK217.out 0).trans rfl; have hfugb217_0 := blk_frozen BK217.out 0; have hcugb222_0 : w37.cell? ⟨gb222, 0, none⟩ = some (.slice Ao33 t218.length co33) := (blk_cell BK222.out 0).trans rfl; have hfugb222_0 := blk_frozen BK222.out 0)); obtain ⟨hcz38_0, hfz38_0⟩ := bk1 BK222.out) | ((with_reducible refine gate_callee (f := 51) rfl ?_); refine gL (some 45) rfl rfl Try.func51 (by kernel_rfl) rfl #[.agg #[.slice Ao33 t218.length co33], .int .i64 (Int.tmod t225 20)] rfl ?_; (with_reducible refine (impl_RingTake.calls _ _ t218 (Int.tmod t225 20) t226 t229 _ ?side1 ?side2 A9.out).mono ?_); (case side1 => exact cR HO220.out); (case side2 => exact (Kd.R_reads' HO220.out).2.1); rintro e w39 ⟨v227, v230, rfl, ho0, ho1, hb⟩; refine ⟨_, rfl, ?_⟩; have _ := aM (rM (Kd.R_told (Kd.R_told (Kd.R_old (rA HO213.out) hb) (Kd.R_base ho0)) (Kd.R_base ho1))); have _ := aM (rM (Kd.R_told (Kd.R_told (Kd.R_old (rA HO216.out) hb) (Kd.R_base ho0)) (Kd.R_base ho1))); have _ := aM (rM (Kd.R_told (Kd.R_told (Kd.R_old (rA HO220.out) hb) (Kd.R_base ho0)) (Kd.R_base ho1))); have _ := aM (Kd.R_lower (Kd.R_new' (Kd.R_new' (Kd.R_new' ho0 (Kd.R_lt (rA HO213.out))) (Kd.R_lt (rA HO216.out))) (Kd.R_lt (rA HO220.out))) (below_size (bS HB.out))); have _ := aM (Kd.R_lower (Kd.R_new' (Kd.R_new' (Kd.R_new' ho1 (Kd.R_lt (rA HO213.out))) (Kd.R_lt (rA HO216.out))) (Kd.R_lt (rA HO220.out))) (below_size (bS HB.out))); have _ := aM (kB BK217.out hb); have _ := aM (kB BK222.out hb); have _ := aM (below_step (bS HB.out) hb); clear HO213 HO216 HO220 BK217 BK222 HB; rename_i HO213 HO216 HO220 HO228 HO231 BK217 BK222 HB; (try clear hb); (try clear ho0); (try clear ho1)) | ((with_reducible refine gate_dst (N := 9) rfl ?_); (try (refine gate_guard (by rfl) ?_; dsimp only)); refine box_event ?hg (N := 9) ?hd (cs := #[.slice none 0 0]) (t := 27) ?hr ?_; (case hd => rfl); (case hg => rfl); (case hr => first | (go_simp; done) | (go_simp; rfl)); intro gb232 hg w40 hbox hb; have _ := aM (rB HO213.out hb); have _ := aM (rB HO216.out hb); have _ := aM (rB HO220.out hb); have _ := aM (rB HO228.out hb); have _ := aM (rB HO231.out hb); have _ := aM (kB BK217.out hb); have _ := aM (kB BK222.out hb); have _ := aM (below_step (bS HB.out) hb); have _ := aM (hbox); have _ := aM (leG hg (bS HB.out)); have _ := aM (leG hg (bS HB.out)); have _ := aM (neL hg (kA BK217.out)); have _ := aM (neG hg (kA BK217.out)); have _ := aM (neL hg (kA BK222.out)); have _ := aM (neG hg (kA BK222.out)); clear HO213 HO216 HO220 HO228 HO231 BK217 BK222 HB; rename_i HO213 HO216 HO220 HO228 HO231 BK217 BK222 HB BK232 GW232 GE232 NB217_232 NB232_217 NB222_232 NB232_222; clear hb hbox hg; obtain ⟨Ao41, co41, eo41⟩ := Kd.R_slice HO231.out; subst eo41; have hnb42 := NB232_217.out; have hnc42 := NB217_232.out; have hnb43 := NB232_222.out; have hnc43 := NB222_232.out; obtain ⟨hcz44_0, hfz44_0⟩ := bk1 BK232.out) | ((with_reducible refine gate_callee (f := 51) rfl ?_); refine gL (some 50) rfl rfl Try.func51 (by kernel_rfl) rfl #[.agg #[.slice Ao41 t229.length co41], .int .i64 300] rfl ?_; (with_reducible refine (impl_RingTake.calls _ _ t229 300 t233 t236 _ ?side1 ?side2 A10.out).mono ?_); (case side1 => exact (Kd.R_reads' (rF1 HO231.out BK232.out)).2.2); (case side2 => exact (Kd.R_reads' HO231.out).2.1); rintro e w45 ⟨v234, v237, rfl, ho0, ho1, hb⟩; refine ⟨_, rfl, ?_⟩; have _ := aM (rM (Kd.R_told (Kd.R_told (Kd.R_old (rF1 HO213.out BK232.out) hb) (Kd.R_base ho0)) (Kd.R_base ho1))); have _ := aM (rM (Kd.R_told (Kd.R_told (Kd.R_old (rF1 HO216.out BK232.out) hb) (Kd.R_base ho0)) (Kd.R_base ho1))); have _ := aM (rM (Kd.R_told (Kd.R_told (Kd.R_old (rF1 HO220.out BK232.out) hb) (Kd.R_base ho0)) (Kd.R_base ho1))); have _ := aM (rM (Kd.R_told (Kd.R_told (Kd.R_old (rF1 HO228.out BK232.out) hb) (Kd.R_base ho0)) (Kd.R_base ho1))); have _ := aM (rM (Kd.R_told (Kd.R_told (Kd.R_old (rF1 HO231.out BK232.out) hb) (Kd.R_base ho0)) (Kd.R_base ho1))); have _ := aM (Kd.R_lower (Kd.R_new' (Kd.R_new' (Kd.R_new' (Kd.R_new' (Kd.R_new' ho0 (Kd.R_lt (rF1 HO213.out BK232.out))) (Kd.R_lt (rF1 HO216.out BK232.out))) (Kd.R_lt (rF1 HO220.out BK232.out))) (Kd.R_lt (rF1 HO228.out BK232.out))) (Kd.R_lt (rF1 HO231.out BK232.out))) (below_size (bS HB.out))); have _ := aM (Kd.R_lower (Kd.R_new' (Kd.R_new' (Kd.R_new' (Kd.R_new' (Kd.R_new' ho1 (Kd.R_lt (rF1 HO213.out BK232.out))) (Kd.R_lt (rF1 HO216.out BK232.out))) (Kd.R_lt (rF1 HO220.out BK232.out))) (Kd.R_lt (rF1 HO228.out BK232.out))) (Kd.R_lt (rF1 HO231.out BK232.out))) (below_size (bS HB.out))); have _ := aM (blk_below (kF1 BK217.out NB217_232.out) hb); have _ := aM (blk_below (kF1 BK222.out NB222_232.out) hb); have _ := aM (blk_below (kP1 BK232.out) hb); have _ := aM (below_step (bS HB.out) hb); clear HO213 HO216 HO220 HO228 HO231 BK217 BK222 BK232 HB; rename_i HO213 HO216 HO220 HO228 HO231 HO235 HO238 BK217 BK222 BK232 HB; (try clear hb); (try clear ho0); (try clear ho1)) | ((with_reducible refine gate_dst (N := 11) rfl ?_); (try (refine gate_guard (by rfl) ?_; dsimp only)); refine box_event ?hg (N := 11) ?hd (cs := #[.slice none 0 0]) (t := 27) ?hr ?_; (case hd => rfl); (case hg => rfl); (case hr => first | (go_simp; done) | (go_simp; rfl)); intro gb239 hg w46 hbox hb; have _ := aM (rB HO213.out hb); have _ := aM (rB HO216.out hb); have _ := aM (rB HO220.out hb); have _ := aM (rB HO228.out hb); have _ := aM (rB HO231.out hb); have _ := aM (rB HO235.out hb); have _ := aM (rB HO238.out hb); have _ := aM (kB BK217.out hb); have _ := aM (kB BK222.out hb); have _ := aM (kB BK232.out hb); have _ := aM (below_step (bS HB.out) hb); have _ := aM (hbox); have _ := aM (leG hg (bS HB.out)); have _ := aM (leG hg (bS HB.out)); have _ := aM (neL hg (kA BK217.out)); have _ := aM (neG hg (kA BK217.out)); have _ := aM (neL hg (kA BK222.out)); have _ := aM (neG hg (kA BK222.out)); have _ := aM (neL hg (kA BK232.out)); have _ := aM (neG hg (kA BK232.out)); clear HO213 HO216 HO220 HO228 HO231 HO235 HO238 BK217 BK222 BK232 HB; rename_i HO213 HO216 HO220 HO228 HO231 HO235 HO238 BK217 BK222 BK232 HB BK239 GW239 GE239 NB217_239 NB239_217 NB222_239 NB239_222 NB232_239 NB239_232; clear hb hbox hg; obtain ⟨Ao47, co47, eo47⟩ := Kd.R_slice HO238.out; subst eo47; have hnb48 := NB239_217.out; have hnc48 := NB217_239.out; have hnb49 := NB239_222.out; have hnc49 := NB222_239.out; have hnb50 := NB239_232.out; have hnc50 := NB232_239.out; obtain ⟨hcz51_0, hfz51_0⟩ := bk1 BK239.out) | ((with_reducible refine gate_dst (N := 53) rfl ?_); (try (refine gate_guard (by rfl) ?_; dsimp only)); refine Kd.R_lit (Kd.int .u8) _ 5 ?hg (N := 53) ?hd (xs := ([] : List Int)) (inner := []) (ok := fun _ => True) (okp := fun _ => True) ?hr ?hp (fun _ hk => hk) trivial (Below.refl _ _) (Nat.le_refl _) (by simp) ?_; (case hd => rfl); (case hg => rfl); (case hr => first | (go_simp; done) | (go_simp; rfl)); (case hp => exact (Reps.none _ _)); intro v241 w52 ho53 hb hg_ hnew_; clear hg_ hnew_; (first | rw [← Ny240.out] at ho53 | (simp only [Int.reduceToNat] at ho53; rw [← Ny240.out] at ho53)); have _ := aM (Kd.R_elder' (rF1 HO213.out BK239.out) (Kd.R_base ho53) hb); have _ := aM (Kd.R_elder' (rF1 HO216.out BK239.out) (Kd.R_base ho53) hb); have _ := aM (Kd.R_elder' (rF1 HO220.out BK239.out) (Kd.R_base ho53) hb); have _ := aM (Kd.R_elder' (rF1 HO228.out BK239.out) (Kd.R_base ho53) hb); have _ := aM (Kd.R_elder' (rF1 HO231.out BK239.out) (Kd.R_base ho53) hb); have _ := aM (Kd.R_elder' (rF1 HO235.out BK239.out) (Kd.R_base ho53) hb); have _ := aM (Kd.R_elder' (rF1 HO238.out BK239.out) (Kd.R_base ho53) hb); have _ := aM (Kd.R_lower (Kd.R_new' (Kd.R_new' (Kd.R_new' (Kd.R_new' (Kd.R_new' (Kd.R_new' (Kd.R_new' ho53 (Kd.R_lt (rF1 HO213.out BK239.out))) (Kd.R_lt (rF1 HO216.out BK239.out))) (Kd.R_lt (rF1 HO220.out BK239.out))) (Kd.R_lt (rF1 HO228.out BK239.out))) (Kd.R_lt (rF1 HO231.out BK239.out))) (Kd.R_lt (rF1 HO235.out BK239.out))) (Kd.R_lt (rF1 HO238.out BK239.out))) (below_size (bS HB.out))); have _ := aM (blk_below (kF1 BK217.out NB217_239.out) hb); have _ := aM (blk_below (kF1 BK222.out NB222_239.out) hb); have _ := aM (blk_below (kF1 BK232.out NB232_239.out) hb); have _ := aM (blk_below (kP1 BK239.out) hb); have _ := aM (below_step (bS HB.out) hb); clear HO213 HO216 HO220 HO228 HO231 HO235 HO238 BK217 BK222 BK232 BK239 HB; rename_i HO213 HO216 HO220 HO228 HO231 HO235 HO238 HO242 BK217 BK222 BK232 BK239 HB; clear hb ho53; obtain ⟨Ao55, co55, eo55⟩ := Kd.R_slice HO228.out; subst eo55) | ((with_reducible refine gate_builtin (b := .append) (xs := #[.tmp 53, .tmp 54]) rfl ?_); (try (refine gate_guard (by rfl) ?_; dsimp only)); at_builtin; refine Kd.R_append_rows (Kd.int .u8) (w0 := w) w.heap.size rfl (.tmp 53) (.tmp 54) 22 5 (.int .u8 0) 1 rfl Try.underlying22 info5 rfl (by decide) (by omega) v241 y240 t226 _ _ _ (fun k_ => some k_ ≠ (.slice Ao26 t211.length co26 : Value).ownBlock ∧ some k_ ≠ (.slice Ao30 t214.length co30 : Value).ownBlock ∧ some k_ ≠ (.slice Ao33 t218.length co33 : Value).ownBlock ∧ some k_ ≠ (.slice Ao55 t226.length co55 : Value).ownBlock ∧ some k_ ≠ (.slice Ao41 t229.length co41 : Value).ownBlock ∧ some k_ ≠ (v234 : Value).ownBlock ∧ some k_ ≠ (.slice Ao47 t236.length co47 : Value).ownBlock) (fun _ => False) rfl rfl ?aO ?aR (fun _ _ h => h) (fun _ h => h.elim) ?aF ?aB ?aS ?aL ?_; (case aR => repeat (first | exact (Kd.R_reads' HO228.out).2.2 | (with_reducible refine Kd.C_alloc ?_ _) | (with_reducible refine Kd.C_drewN ?_ _) | (with_reducible refine Kd.C_drew ?_))); (case aB => exact (bS HB.out)); (case aF => exact (fun k_ hk => ⟨Kd.fresh' (Kd.R_lt (rA HO213.out)) k_ hk, Kd.fresh' (Kd.R_lt (rA HO216.out)) k_ hk, Kd.fresh' (Kd.R_lt (rA HO220.out)) k_ hk, Kd.fresh' (Kd.R_lt (rA HO228.out)) k_ hk, Kd.fresh' (Kd.R_lt (rA HO231.out)) k_ hk, Kd.fresh' (Kd.R_lt (rA HO235.out)) k_ hk, Kd.fresh' (Kd.R_lt (rA HO238.out)) k_ hk⟩)); (case aO => exact (by (with_reducible repeat (first | apply Kd.R_alloc | apply Kd.R_drewN | apply Kd.R_drew)); exact Kd.R_mono HO242.out (fun _ hk => by first | exact ⟨hk.1.1.1.1.1.1.2, ⟨hk.1.1.1.1.1.2, ⟨hk.1.1.1.1.2, ⟨hk.1.1.1.2, ⟨hk.1.1.2, ⟨hk.1.2, hk.2⟩⟩⟩⟩⟩⟩ | (simp only [ne_eq] at hk ⊢; simp [hk])))); (case aS => exact (below_size (bS HB.out))); (case aL => have := LMc11.out; omega); intro v244 w54 ho hb hg hat; rw [← Ny243.out] at ho; have _ := aM (Kd.R_after (ok := (fun k_ => some k_ ≠ (.slice Ao30 t214.length co30 : Value).ownBlock ∧ some k_ ≠ (.slice Ao33 t218.length co33 : Value).ownBlock ∧ some k_ ≠ (.slice Ao55 t226.length co55 : Value).ownBlock ∧ some k_ ≠ (.slice Ao41 t229.length co41 : Value).ownBlock ∧ some k_ ≠ (v234 : Value).ownBlock ∧ some k_ ≠ (.slice Ao47 t236.length co47 : Value).ownBlock)) (by (with_reducible repeat (first | apply Kd.R_alloc | apply Kd.R_drewN | apply Kd.R_drew)); exact Kd.R_mono HO213.out (fun _ hk => by first | exact ⟨⟨hk.1.1.1.1.1.1, ⟨hk.1.1.1.1.1.2, ⟨hk.1.1.1.1.2, ⟨hk.1.1.1.2, ⟨hk.1.1.2, hk.1.2⟩⟩⟩⟩⟩, hk.2⟩ | (simp only [ne_eq] at hk ⊢; simp [hk]))) hg hat); have _ := aM (Kd.R_after (ok := (fun k_ => some k_ ≠ (.slice Ao26 t211.length co26 : Value).ownBlock ∧ some k_ ≠ (.slice Ao33 t218.length co33 : Value).ownBlock ∧ some k_ ≠ (.slice Ao55 t226.length co55 : Value).ownBlock ∧ some k_ ≠ (.slice Ao41 t229.length co41 : Value).ownBlock ∧ some k_ ≠ (v234 : Value).ownBlock ∧ some k_ ≠ (.slice Ao47 t236.length co47 : Value).ownBlock)) (by (with_reducible repeat (first | apply Kd.R_alloc | apply Kd.R_drewN | apply Kd.R_drew)); exact Kd.R_mono HO216.out (fun _ hk => by first | exact ⟨⟨hk.1.1.1.1.1.1, ⟨hk.1.1.1.1.1.2, ⟨hk.1.1.1.1.2, ⟨hk.1.1.1.2, ⟨hk.1.1.2, hk.1.2⟩⟩⟩⟩⟩, hk.2⟩ | (simp only [ne_eq] at hk ⊢; simp [hk]))) hg hat); have _ := aM (blk_grown (g := gb217) (o := .cells #[.slice Ao26 t211.length co26] 27 (0, 0)) (kA BK217.out) hg (Kd.R_ne HO242.out BK217.out (by decide))); have _ := aM (Kd.R_after (ok := (fun k_ => some k_ ≠ (.slice Ao26 t211.length co26 : Value).ownBlock ∧ some k_ ≠ (.slice Ao30 t214.length co30 : Value).ownBlock ∧ some k_ ≠ (.slice Ao55 t226.length co55 : Value).ownBlock ∧ some k_ ≠ (.slice Ao41 t229.length co41 : Value).ownBlock ∧ some k_ ≠ (v234 : Value).ownBlock ∧ some k_ ≠ (.slice Ao47 t236.length co47 : Value).ownBlock)) (by (with_reducible repeat (first | apply Kd.R_alloc | apply Kd.R_drewN | apply Kd.R_drew)); exact Kd.R_mono HO220.out (fun _ hk => by first | exact ⟨⟨hk.1.1.1.1.1.1.2, ⟨hk.1.1.1.1.1.2, ⟨hk.1.1.1.1.2, ⟨hk.1.1.1.2, ⟨hk.1.1.2, hk.1.2⟩⟩⟩⟩⟩, hk.2⟩ | (simp only [ne_eq] at hk ⊢; simp [hk]))) hg hat); have _ := aM (blk_grown (g := gb222) (o := .cells #[.slice Ao33 t218.length co33] 27 (0, 0)) (kA BK222.out) hg (Kd.R_ne HO242.out BK222.out (by decide))); have _ := aM (Kd.R_after (ok := (fun k_ => some k_ ≠ (.slice Ao26 t211.length co26 : Value).ownBlock ∧ some k_ ≠ (.slice Ao30 t214.length co30 : Value).ownBlock ∧ some k_ ≠ (.slice Ao33 t218.length co33 : Value).ownBlock ∧ some k_ ≠ (.slice Ao41 t229.length co41 : Value).ownBlock ∧ some k_ ≠ (v234 : Value).ownBlock ∧ some k_ ≠ (.slice Ao47 t236.length co47 : Value).ownBlock)) (by (with_reducible repeat (first | apply Kd.R_alloc | apply Kd.R_drewN | apply Kd.R_drew)); exact Kd.R_mono HO228.out (fun _ hk => by first | exact ⟨⟨hk.1.1.1.1.1.2, ⟨hk.1.1.1.1.2, ⟨hk.1.1.1.2, ⟨hk.1.1.1.1.1.1, ⟨hk.1.1.2, hk.1.2⟩⟩⟩⟩⟩, hk.2⟩ | (simp only [ne_eq] at hk ⊢; simp [hk]))) hg hat); have _ := aM (Kd.R_after (ok := (fun k_ => some k_ ≠ (.slice Ao26 t211.length co26 : Value).ownBlock ∧ some k_ ≠ (.slice Ao30 t214.length co30 : Value).ownBlock ∧ some k_ ≠ (.slice Ao33 t218.length co33 : Value).ownBlock ∧ some k_ ≠ (.slice Ao55 t226.length co55 : Value).ownBlock ∧ some k_ ≠ (v234 : Value).ownBlock ∧ some k_ ≠ (.slice Ao47 t236.length co47 : Value).ownBlock)) (by (with_reducible repeat (first | apply Kd.R_alloc | apply Kd.R_drewN | apply Kd.R_drew)); exact Kd.R_mono HO231.out (fun _ hk => by first | exact ⟨⟨hk.1.1.1.1.1.2, ⟨hk.1.1.1.1.2, ⟨hk.1.1.1.2, ⟨hk.1.1.1.1.1.1, ⟨hk.1.1.2, hk.1.2⟩⟩⟩⟩⟩, hk.2⟩ | (simp only [ne_eq] at hk ⊢; simp [hk]))) hg hat); have _ := aM (blk_grown (g := gb232) (o := .cells #[.slice Ao41 t229.length co41] 27 (0, 0)) (kA BK232.out) hg (Kd.R_ne HO242.out BK232.out (by decide))); have _ := aM (Kd.R_after (ok := (fun k_ => some k_ ≠ (.slice Ao26 t211.length co26 : Value).ownBlock ∧ some k_ ≠ (.slice Ao30 t214.length co30 : Value).ownBlock ∧ some k_ ≠ (.slice Ao33 t218.length co33 : Value).ownBlock ∧ some k_ ≠ (.slice Ao55 t226.length co55 : Value).ownBlock ∧ some k_ ≠ (.slice Ao41 t229.length co41 : Value).ownBlock ∧ some k_ ≠ (.slice Ao47 t236.length co47 : Value).ownBlock)) (by (with_reducible repeat (first | apply Kd.R_alloc | apply Kd.R_drewN | apply Kd.R_drew)); exact Kd.R_mono HO235.out (fun _ hk => by first | exact ⟨⟨hk.1.1.1.1.1.2, ⟨hk.1.1.1.1.2, ⟨hk.1.1.1.2, ⟨hk.1.1.2, ⟨hk.1.2, hk.1.1.1.1.1.1⟩⟩⟩⟩⟩, hk.2⟩ | (simp only [ne_eq] at hk ⊢; simp [hk]))) hg hat); have _ := aM (Kd.R_after (ok := (fun k_ => some k_ ≠ (.slice Ao26 t211.length co26 : Value).ownBlock ∧ some k_ ≠ (.slice Ao30 t214.length co30 : Value).ownBlock ∧ some k_ ≠ (.slice Ao33 t218.length co33 : Value).ownBlock ∧ some k_ ≠ (.slice Ao55 t226.length co55 : Value).ownBlock ∧ some k_ ≠ (.slice Ao41 t229.length co41 : Value).ownBlock ∧ some k_ ≠ (v234 : Value).ownBlock)) (by (with_reducible repeat (first | apply Kd.R_alloc | apply Kd.R_drewN | apply Kd.R_drew)); exact Kd.R_mono HO238.out (fun _ hk => by first | exact ⟨⟨hk.1.1.1.1.1.2, ⟨hk.1.1.1.1.2, ⟨hk.1.1.1.2, ⟨hk.1.1.2, ⟨hk.1.2, hk.1.1.1.1.1.1⟩⟩⟩⟩⟩, hk.2⟩ | (simp only [ne_eq] at hk ⊢; simp [hk]))) hg hat); have _ := aM (blk_grown (g := gb239) (o := .cells #[.slice Ao47 t236.length co47] 27 (0, 0)) (kA BK239.out) hg (Kd.R_ne HO242.out BK239.out (by decide))); have _ := aM (hb); have _ := aM (ho); clear HO213 HO216 BK217 HO220 BK222 HO228 HO231 BK232 HO235 HO238 BK239 HB HO242; rename_i HO213 HO216 BK217 HO220 BK222 HO228 HO231 BK232 HO235 HO238 BK239 HB HO245; clear ho hb hg hat; obtain ⟨Ao57, co57, eo57⟩ := Kd.R_slice HO235.out; subst eo57) | ((with_reducible refine gate_builtin (b := .append) (xs := #[.tmp 55, .tmp 56]) rfl ?_); (try (refine gate_guard (by rfl) ?_; dsimp only)); at_builtin; refine Kd.R_append_rows (Kd.int .u8) (w0 := w) w.heap.size rfl (.tmp 55) (.tmp 56) 22 5 (.int .u8 0) 1 rfl Try.underlying22 info5 rfl (by decide) (by omega) v244 y243 t233 _ _ _ (fun k_ => some k_ ≠ (.slice Ao26 t211.length co26 : Value).ownBlock ∧ some k_ ≠ (.slice Ao30 t214.length co30 : Value).ownBlock ∧ some k_ ≠ (.slice Ao33 t218.length co33 : Value).ownBlock ∧ some k_ ≠ (.slice Ao55 t226.length co55 : Value).ownBlock ∧ some k_ ≠ (.slice Ao41 t229.length co41 : Value).ownBlock ∧ some k_ ≠ (.slice Ao57 t233.length co57 : Value).ownBlock ∧ some k_ ≠ (.slice Ao47 t236.length co47 : Value).ownBlock) (fun _ => False) rfl rfl ?aO ?aR (fun _ _ h => h) (fun _ h => h.elim) ?aF ?aB ?aS ?aL ?_; (case aR => repeat (first | exact (Kd.R_reads' HO235.out).2.2 | (with_reducible refine Kd.C_alloc ?_ _) | (with_reducible refine Kd.C_drewN ?_ _) | (with_reducible refine Kd.C_drew ?_))); (case aB => exact (bS HB.out)); (case aF => exact (fun k_ hk => ⟨Kd.fresh' (Kd.R_lt (rA HO213.out)) k_ hk, Kd.fresh' (Kd.R_lt (rA HO216.out)) k_ hk, Kd.fresh' (Kd.R_lt (rA HO220.out)) k_ hk, Kd.fresh' (Kd.R_lt (rA HO228.out)) k_ hk, Kd.fresh' (Kd.R_lt (rA HO231.out)) k_ hk, Kd.fresh' (Kd.R_lt (rA HO235.out)) k_ hk, Kd.fresh' (Kd.R_lt (rA HO238.out)) k_ hk⟩)); (case aO => exact (rA HO245.out)); (case aS => exact (below_size (bS HB.out))); (case aL => have := LMc12.out; omega); intro v247 w56 ho hb hg hat; rw [← Ny246.out] at ho; have _ := aM (Kd.R_after (ok := (fun k_ => some k_ ≠ (.slice Ao30 t214.length co30 : Value).ownBlock ∧ some k_ ≠ (.slice Ao33 t218.length co33 : Value).ownBlock ∧ some k_ ≠ (.slice Ao55 t226.length co55 : Value).ownBlock ∧ some k_ ≠ (.slice Ao41 t229.length co41 : Value).ownBlock ∧ some k_ ≠ (.slice Ao57 t233.length co57 : Value).ownBlock ∧ some k_ ≠ (.slice Ao47 t236.length co47 : Value).ownBlock)) (rA HO213.out) hg hat); have _ := aM (Kd.R_after (ok := (fun k_ => some k_ ≠ (.slice Ao26 t211.length co26 : Value).ownBlock ∧ some k_ ≠ (.slice Ao33 t218.length co33 : Value).ownBlock ∧ some k_ ≠ (.slice Ao55 t226.length co55 : Value).ownBlock ∧ some k_ ≠ (.slice Ao41 t229.length co41 : Value).ownBlock ∧ some k_ ≠ (.slice Ao57 t233.length co57 : Value).ownBlock ∧ some k_ ≠ (.slice Ao47 t236.length co47 : Value).ownBlock)) (rA HO216.out) hg hat); have _ := aM (blk_grown (g := gb217) (o := .cells #[.slice Ao26 t211.length co26] 27 (0, 0)) (kA BK217.out) hg (Kd.R_ne HO245.out BK217.out (by decide))); have _ := aM (Kd.R_after (ok := (fun k_ => some k_ ≠ (.slice Ao26 t211.length co26 : Value).ownBlock ∧ some k_ ≠ (.slice Ao30 t214.length co30 : Value).ownBlock ∧ some k_ ≠ (.slice Ao55 t226.length co55 : Value).ownBlock ∧ some k_ ≠ (.slice Ao41 t229.length co41 : Value).ownBlock ∧ some k_ ≠ (.slice Ao57 t233.length co57 : Value).ownBlock ∧ some k_ ≠ (.slice Ao47 t236.length co47 : Value).ownBlock)) (rA HO220.out) hg hat); have _ := aM (blk_grown (g := gb222) (o := .cells #[.slice Ao33 t218.length co33] 27 (0, 0)) (kA BK222.out) hg (Kd.R_ne HO245.out BK222.out (by decide))); have _ := aM (Kd.R_after (ok := (fun k_ => some k_ ≠ (.slice Ao26 t211.length co26 : Value).ownBlock ∧ some k_ ≠ (.slice Ao30 t214.length co30 : Value).ownBlock ∧ some k_ ≠ (.slice Ao33 t218.length co33 : Value).ownBlock ∧ some k_ ≠ (.slice Ao41 t229.length co41 : Value).ownBlock ∧ some k_ ≠ (.slice Ao57 t233.length co57 : Value).ownBlock ∧ some k_ ≠ (.slice Ao47 t236.length co47 : Value).ownBlock)) (rA HO228.out) hg hat); have _ := aM (Kd.R_after (ok := (fun k_ => some k_ ≠ (.slice Ao26 t211.length co26 : Value).ownBlock ∧ some k_ ≠ (.slice Ao30 t214.length co30 : Value).ownBlock ∧ some k_ ≠ (.slice Ao33 t218.length co33 : Value).ownBlock ∧ some k_ ≠ (.slice Ao55 t226.length co55 : Value).ownBlock ∧ some k_ ≠ (.slice Ao57 t233.length co57 : Value).ownBlock ∧ some k_ ≠ (.slice Ao47 t236.length co47 : Value).ownBlock)) (rA HO231.out) hg hat); have _ := aM (blk_grown (g := gb232) (o := .cells #[.slice Ao41 t229.length co41] 27 (0, 0)) (kA BK232.out) hg (Kd.R_ne HO245.out BK232.out (by decide))); have _ := aM (Kd.R_after (ok := (fun k_ => some k_ ≠ (.slice Ao26 t211.length co26 : Value).ownBlock ∧ some k_ ≠ (.slice Ao30 t214.length co30 : Value).ownBlock ∧ some k_ ≠ (.slice Ao33 t218.length co33 : Value).ownBlock ∧ some k_ ≠ (.slice Ao55 t226.length co55 : Value).ownBlock ∧ some k_ ≠ (.slice Ao41 t229.length co41 : Value).ownBlock ∧ some k_ ≠ (.slice Ao47 t236.length co47 : Value).ownBlock)) (rA HO235.out) hg hat); have _ := aM (Kd.R_after (ok := (fun k_ => some k_ ≠ (.slice Ao26 t211.length co26 : Value).ownBlock ∧ some k_ ≠ (.slice Ao30 t214.length co30 : Value).ownBlock ∧ some k_ ≠ (.slice Ao33 t218.length co33 : Value).ownBlock ∧ some k_ ≠ (.slice Ao55 t226.length co55 : Value).ownBlock ∧ some k_ ≠ (.slice Ao41 t229.length co41 : Value).ownBlock ∧ some k_ ≠ (.slice Ao57 t233.length co57 : Value).ownBlock)) (rA HO238.out) hg hat); have _ := aM (blk_grown (g := gb239) (o := .cells #[.slice Ao47 t236.length co47] 27 (0, 0)) (kA BK239.out) hg (Kd.R_ne HO245.out BK239.out (by decide))); have _ := aM (hb); have _ := aM (ho); clear HO213 HO216 BK217 HO220 BK222 HO228 HO231 BK232 HO235 HO238 BK239 HB HO245; rename_i HO213 HO216 BK217 HO220 BK222 HO228 HO231 BK232 HO235 HO238 BK239 HB HO248; clear ho hb hg hat))
         have n0_ := aM (Kd.R_drew HO213.out)
         have n1_ := aM (Kd.R_drew HO216.out)
         have n2_ := aM (Kd.R_drew HO220.out)
         have n3_ := aM (Kd.R_drew HO228.out)
         have n4_ := aM (Kd.R_drew HO231.out)
         have n5_ := aM (Kd.R_drew HO235.out)
         have n6_ := aM (Kd.R_drew HO238.out)
         have n7_ := aM (Kd.R_drew HO248.out)
         have n8_ := aM (blk_drew BK217.out)
         have n9_ := aM (blk_drew BK222.out)
         have n10_ := aM (blk_drew BK232.out)
         have n11_ := aM (blk_drew BK239.out)
         have n12_ := aM (below_drew1 HB.out)
         clear HO213
         clear HO216
         clear HO220
         clear HO228
         clear HO231
         clear HO235
         clear HO238
         clear HO248
         clear BK217
         clear BK222
         clear BK232
         clear BK239
         clear HB
         have HO213 := n0_
         have HO216 := n1_
         have HO220 := n2_
         have HO228 := n3_
         have HO231 := n4_
         have HO235 := n5_
         have HO238 := n6_
         have HO248 := n7_
         have BK217 := n8_
         have BK222 := n9_
         have BK232 := n10_
         have BK239 := n11_
         have HB := n12_
         clear n0_ n1_ n2_ n3_ n4_ n5_ n6_ n7_ n8_ n9_ n10_ n11_ n12_
         have q59 : ((ji14) : Int) ≤ ((t214.length : Int) : Int) := of_decide_eq_true (by first | (with_reducible assumption) | assumption)
         obtain ⟨i059, hi059, _, hsz59, _⟩ := info_parts info5
         have hroom59 : t214.length ≤ co30 := (Kd.R_reads' HO216.out).2.1
         have hC59 : Kd.C (Kd.int .u8) _ Ao30 t214.length t214 := (Kd.R_reads' HO216.out).2.2
         have hcut59 := cut_to (P := Try.prog) 22 5 .i64 Try.underlying22 hi059 Ao30 t214.length co30 (ji14) (of_decide_eq_true (by first | (with_reducible assumption) | assumption)) q59 hroom59
         have hr59 := Kd.C_take (m := ((ji14) : Int).toNat) hC59 (by omega)
         have hy59 : y255.length = ((ji14) : Int).toNat := (by rw [Ny255.out, List.length_take]; omega)
         rw [← Ny255.out] at hr59
         rw [← hy59] at hcut59
         have HR258 := aM hr59
         have HC258 := aM (show y255.length ≤ co30 from by omega)
         clear hr59 hC59 hroom59 hi059 hsz59
         have KY59 := aM hy59
         clear hy59
         have KL59 := aM (show ((ji14) : Int).toNat ≤ t214.length from by omega)
         replace q59 := eq_true q59
         refine start_ (n := 12) (S := fun w' => w'.cell? ⟨gb217, 0, none⟩ = some (.slice Ao26 t211.length co26)) (ds := []) #[false, false, false, false, false, false, false, false, false, false, false, false] (by kernel_rfl) rfl rfl ((blk_cell BK217.out 0).trans rfl) (fun hHeld => ?_); refine with_tabW laws_FnRings.tab11 laws_FnRings.bits11 (fun HT_ HW_ => ?_)
         generalize w56.drew = w58 at HO213 HO216 HO220 HO228 HO231 HO235 HO238 HO248 BK217 BK222 BK232 BK239 HB HR258 hHeld ⊢
         refine pure_ (i := 1) (N := some 59) (v := ?_) (a' := ?_) #[false, true, false, false, false, false, false, false, false, false, false, false] rfl rfl (any_of HT_.out (by kernel_rfl)) (fun _ _ _ h => h) (Or.inl ⟨by rfl, ?_⟩) ?_ ?_
         rotate_left
         ·intro w'
          go_simp
          with_reducible rfl
         rotate_left
         ·simp only [Act.put, List.setIfInBounds_toArray, List.set_cons_zero, List.set_cons_succ, i64_w, i32_w]
          rfl
         refine pure_ (i := 4) (N := some 62) (v := ?_) (a' := ?_) #[false, true, false, false, true, false, false, false, false, false, false, false] rfl rfl (any_of HT_.out (by kernel_rfl)) (fun _ _ _ h => h) (Or.inl ⟨by rfl, ?_⟩) ?_ ?_
         rotate_left
         ·intro w'
          go_simp
          with_reducible rfl
         rotate_left
         ·simp only [Act.put, List.setIfInBounds_toArray, List.set_cons_zero, List.set_cons_succ, i64_w, i32_w]
          rfl
         refine pure_ (i := 5) (N := some 63) (v := ?_) (a' := ?_) #[false, true, false, false, true, true, false, false, false, false, false, false] rfl rfl (any_of HT_.out (by kernel_rfl)) (fun _ _ _ h => h) (Or.inl ⟨by rfl, ?_⟩) ?_ ?_
         rotate_left
         ·intro w'
          go_simp
          with_reducible rfl
         rotate_left
         ·simp only [Act.put, List.setIfInBounds_toArray, List.set_cons_zero, List.set_cons_succ, i64_w, i32_w]
          rfl
         refine pure_ (i := 6) (N := some 64) (v := ?_) (a' := ?_) #[false, true, false, false, true, true, true, false, false, false, false, false] rfl rfl (any_of HT_.out (by kernel_rfl)) (fun _ _ _ h => h) (Or.inl ⟨by rfl, ?_⟩) ?_ ?_
         rotate_left
         ·intro w'
          go_simp
          with_reducible rfl
         rotate_left
         ·simp only [Act.put, List.setIfInBounds_toArray, List.set_cons_zero, List.set_cons_succ, i64_w, i32_w]
          rfl
         refine pure_ (i := 7) (N := some 65) (v := ?_) (a' := ?_) #[false, true, false, false, true, true, true, true, false, false, false, false] rfl rfl (any_of HT_.out (by kernel_rfl)) (fun _ _ _ h => h) (Or.inl ⟨by rfl, ?_⟩) ?_ ?_
         rotate_left
         ·intro w'
          go_simp
          with_reducible rfl
         rotate_left
         ·simp only [Act.put, List.setIfInBounds_toArray, List.set_cons_zero, List.set_cons_succ, i64_w, i32_w]
          rfl
         refine pure_ (i := 8) (N := some 66) (v := ?_) (a' := ?_) #[false, true, false, false, true, true, true, true, true, false, false, false] rfl rfl (any_of HT_.out (by kernel_rfl)) (fun _ _ _ h => h) (Or.inl ⟨by rfl, ?_⟩) ?_ ?_
         rotate_left
         ·intro w'
          go_simp
          with_reducible rfl
         rotate_left
         ·simp only [Act.put, List.setIfInBounds_toArray, List.set_cons_zero, List.set_cons_succ, i64_w, i32_w]
          rfl
         refine pure_ (i := 9) (N := some 67) (v := ?_) (a' := ?_) #[false, true, false, false, true, true, true, true, true, true, false, false] rfl rfl (any_of HT_.out (by kernel_rfl)) (fun _ _ _ h => h) (Or.inl ⟨by rfl, ?_⟩) ?_ ?_
         rotate_left
         ·intro w'
          go_simp
          with_reducible rfl
         rotate_left
         ·simp only [Act.put, List.setIfInBounds_toArray, List.set_cons_zero, List.set_cons_succ, i64_w, i32_w]
          rfl
         refine take_ (i := 2) (N := some 60) (v := ?_) (a' := ?_) #[false, true, true, false, true, true, true, true, true, true, false, false] rfl rfl (take_ofW HT_.out HW_.out (by kernel_rfl)) (fun _ _ _ h => h) (Or.inl ⟨by rfl, ?_⟩) hHeld ?_ ?_
         rotate_left
         ·intro w' s0
          go_simp
          with_reducible rfl
         rotate_left
         ·simp only [Act.put, List.setIfInBounds_toArray, List.set_cons_zero, List.set_cons_succ, i64_w, i32_w]
          rfl
         refine one_ (i := 0) (N := some 58) #[true, true, true, false, true, true, true, true, true, true, false, false] rfl rfl (one_of HT_.out (by kernel_rfl)) (by decide) (fun K hK => ?_)
         refine Kd.R_lit_step (Kd.int .u8) _ 5 ?hg (N := 58) ?hd (xs := ([] : List Int)) (inner := []) (ok := fun _ => True) (okp := fun _ => True) ?hr ?hp (fun _ hk => hk) trivial (Below.refl _ _) (Nat.le_refl _) (by simp) ?_; (case hd => rfl); (case hg => rfl); (case hr => first | (go_simp; done) | (go_simp; rfl)); (case hp => exact (Reps.none _ _))
         intro v250 w60 ho61 hb hg_ hnew_
         clear hg_ hnew_
         (first | rw [← Ny249.out] at ho61 | (simp only [Int.reduceToNat] at ho61; rw [← Ny249.out] at ho61))
         have n0_ := aM (Kd.R_elder' (rA HO213.out) (Kd.R_base ho61) hb)
         have n1_ := aM (Kd.R_elder' (rA HO216.out) (Kd.R_base ho61) hb)
         have n2_ := aM (Kd.R_elder' (rA HO220.out) (Kd.R_base ho61) hb)
         have n3_ := aM (Kd.R_elder' (rA HO228.out) (Kd.R_base ho61) hb)
         have n4_ := aM (Kd.R_elder' (rA HO231.out) (Kd.R_base ho61) hb)
         have n5_ := aM (Kd.R_elder' (rA HO235.out) (Kd.R_base ho61) hb)
         have n6_ := aM (Kd.R_elder' (rA HO238.out) (Kd.R_base ho61) hb)
         have n7_ := aM (Kd.R_elder' (rA HO248.out) (Kd.R_base ho61) hb)
         have n8_ := aM (Kd.R_lower (Kd.R_new' (Kd.R_new' (Kd.R_new' (Kd.R_new' (Kd.R_new' (Kd.R_new' (Kd.R_new' (Kd.R_new' ho61 (Kd.R_lt (rA HO213.out))) (Kd.R_lt (rA HO216.out))) (Kd.R_lt (rA HO220.out))) (Kd.R_lt (rA HO228.out))) (Kd.R_lt (rA HO231.out))) (Kd.R_lt (rA HO235.out))) (Kd.R_lt (rA HO238.out))) (Kd.R_lt (rA HO248.out))) (below_size (bS HB.out)))
         have n9_ := aM (kB BK217.out hb)
         have n10_ := aM (kB BK222.out hb)
         have n11_ := aM (kB BK232.out hb)
         have n12_ := aM (kB BK239.out hb)
         have n13_ := aM (Kd.C_below (by repeat (first | (with_reducible exact HR258.out) | (with_reducible refine Kd.C_alloc ?_ _) | (with_reducible refine Kd.C_drewN ?_ _) | (with_reducible refine Kd.C_drew ?_) | exact HR258.out)) hb)
         have n14_ := aM (below_step (bS HB.out) hb)
         clear HO213
         clear HO216
         clear HO220
         clear HO228
         clear HO231
         clear HO235
         clear HO238
         clear HO248
         clear BK217
         clear BK222
         clear BK232
         clear BK239
         clear HR258
         clear HB
         have HO213 := n0_
         have HO216 := n1_
         have HO220 := n2_
         have HO228 := n3_
         have HO231 := n4_
         have HO235 := n5_
         have HO238 := n6_
         have HO248 := n7_
         have HO251 := n8_
         have BK217 := n9_
         have BK222 := n10_
         have BK232 := n11_
         have BK239 := n12_
         have HR258 := n13_
         have HB := n14_
         clear n0_ n1_ n2_ n3_ n4_ n5_ n6_ n7_ n8_ n9_ n10_ n11_ n12_ n13_ n14_
         clear hb ho61
         refine hK.out _ _ ((blk_cell BK217.out 0).trans rfl) (fun hHeld => ?_)
         clear hK K
         refine norm_ (a' := ?_) ?_ ?_
         rotate_left
         ·show Act.put _ (some 58) _ = _
          simp only [Act.put, List.setIfInBounds_toArray, List.set_cons_zero, List.set_cons_succ, i64_w, i32_w]
          rfl
         refine one_ (i := 3) (N := some 61) #[true, true, true, true, true, true, true, true, true, true, false, false] rfl rfl (one_of HT_.out (by kernel_rfl)) (by decide) (fun K hK => ?_)
         refine Kd.R_append_rows_step (Kd.int .u8) (w0 := w) w.heap.size (by rfl) (.tmp 58) (.tmp 60) 22 5 (.int .u8 0) 1 rfl Try.underlying22 info5 rfl (by decide) (by omega) v250 y249 t211 _ _ _ (fun k_ => some k_ ≠ (.slice Ao26 t211.length co26 : Value).ownBlock ∧ some k_ ≠ (.slice Ao30 t214.length co30 : Value).ownBlock ∧ some k_ ≠ (.slice Ao33 t218.length co33 : Value).ownBlock ∧ some k_ ≠ (.slice Ao55 t226.length co55 : Value).ownBlock ∧ some k_ ≠ (.slice Ao41 t229.length co41 : Value).ownBlock ∧ some k_ ≠ (.slice Ao57 t233.length co57 : Value).ownBlock ∧ some k_ ≠ (.slice Ao47 t236.length co47 : Value).ownBlock ∧ some k_ ≠ (v247 : Value).ownBlock) (fun _ => False) rfl rfl ?aO ?aR (fun _ _ h => h) (fun _ h => h.elim) ?aF ?aB ?aS ?aL ?_
         (case aR => repeat (first | exact (Kd.R_reads' HO213.out).2.2 | (with_reducible refine Kd.C_alloc ?_ _) | (with_reducible refine Kd.C_drewN ?_ _) | (with_reducible refine Kd.C_drew ?_)))
         (case aB => exact (bS HB.out))
         (case aF => exact (fun k_ hk => ⟨Kd.fresh' (Kd.R_lt (rA HO213.out)) k_ hk, Kd.fresh' (Kd.R_lt (rA HO216.out)) k_ hk, Kd.fresh' (Kd.R_lt (rA HO220.out)) k_ hk, Kd.fresh' (Kd.R_lt (rA HO228.out)) k_ hk, Kd.fresh' (Kd.R_lt (rA HO231.out)) k_ hk, Kd.fresh' (Kd.R_lt (rA HO235.out)) k_ hk, Kd.fresh' (Kd.R_lt (rA HO238.out)) k_ hk, Kd.fresh' (Kd.R_lt (rA HO248.out)) k_ hk⟩))
         (case aO => exact (by (with_reducible repeat (first | apply Kd.R_alloc | apply Kd.R_drewN | apply Kd.R_drew)); exact Kd.R_mono HO251.out (fun _ hk => by first | exact ⟨hk.1.1.1.1.1.1.1.2, ⟨hk.1.1.1.1.1.1.2, ⟨hk.1.1.1.1.1.2, ⟨hk.1.1.1.1.2, ⟨hk.1.1.1.2, ⟨hk.1.1.2, ⟨hk.1.2, hk.2⟩⟩⟩⟩⟩⟩⟩ | (simp only [ne_eq] at hk ⊢; simp [hk]))))
         (case aS => exact (below_size (bS HB.out)))
         (case aL => have := LMc13.out; omega)
         intro v253 w62 ho hb hg hat
         rw [← Ny252.out] at ho
         have n0_ := aM (Kd.R_after (ok := (fun k_ => some k_ ≠ (.slice Ao30 t214.length co30 : Value).ownBlock ∧ some k_ ≠ (.slice Ao33 t218.length co33 : Value).ownBlock ∧ some k_ ≠ (.slice Ao55 t226.length co55 : Value).ownBlock ∧ some k_ ≠ (.slice Ao41 t229.length co41 : Value).ownBlock ∧ some k_ ≠ (.slice Ao57 t233.length co57 : Value).ownBlock ∧ some k_ ≠ (.slice Ao47 t236.length co47 : Value).ownBlock ∧ some k_ ≠ (v247 : Value).ownBlock)) (by (with_reducible repeat (first | apply Kd.R_alloc | apply Kd.R_drewN | apply Kd.R_drew)); exact Kd.R_mono HO213.out (fun _ hk => by first | exact ⟨⟨hk.1.1.1, ⟨hk.1.1.2.1, ⟨hk.1.1.2.2.1, ⟨hk.1.1.2.2.2.1, ⟨hk.1.1.2.2.2.2.1, ⟨hk.1.1.2.2.2.2.2, hk.1.2⟩⟩⟩⟩⟩⟩, hk.2⟩ | (simp only [ne_eq] at hk ⊢; simp [hk]))) hg hat)
         have n1_ := aM (Kd.R_after (ok := (fun k_ => some k_ ≠ (.slice Ao26 t211.length co26 : Value).ownBlock ∧ some k_ ≠ (.slice Ao33 t218.length co33 : Value).ownBlock ∧ some k_ ≠ (.slice Ao55 t226.length co55 : Value).ownBlock ∧ some k_ ≠ (.slice Ao41 t229.length co41 : Value).ownBlock ∧ some k_ ≠ (.slice Ao57 t233.length co57 : Value).ownBlock ∧ some k_ ≠ (.slice Ao47 t236.length co47 : Value).ownBlock ∧ some k_ ≠ (v247 : Value).ownBlock)) (by (with_reducible repeat (first | apply Kd.R_alloc | apply Kd.R_drewN | apply Kd.R_drew)); exact Kd.R_mono HO216.out (fun _ hk => by first | exact ⟨⟨hk.1.1.1, ⟨hk.1.1.2.1, ⟨hk.1.1.2.2.1, ⟨hk.1.1.2.2.2.1, ⟨hk.1.1.2.2.2.2.1, ⟨hk.1.1.2.2.2.2.2, hk.1.2⟩⟩⟩⟩⟩⟩, hk.2⟩ | (simp only [ne_eq] at hk ⊢; simp [hk]))) hg hat)
         have n2_ := aM (blk_grown (g := gb217) (o := .cells #[.slice Ao26 t211.length co26] 27 (0, 0)) (kA BK217.out) hg (Kd.R_ne HO251.out BK217.out (by decide)))
         have n3_ := aM (Kd.R_after (ok := (fun k_ => some k_ ≠ (.slice Ao26 t211.length co26 : Value).ownBlock ∧ some k_ ≠ (.slice Ao30 t214.length co30 : Value).ownBlock ∧ some k_ ≠ (.slice Ao55 t226.length co55 : Value).ownBlock ∧ some k_ ≠ (.slice Ao41 t229.length co41 : Value).ownBlock ∧ some k_ ≠ (.slice Ao57 t233.length co57 : Value).ownBlock ∧ some k_ ≠ (.slice Ao47 t236.length co47 : Value).ownBlock ∧ some k_ ≠ (v247 : Value).ownBlock)) (by (with_reducible repeat (first | apply Kd.R_alloc | apply Kd.R_drewN | apply Kd.R_drew)); exact Kd.R_mono HO220.out (fun _ hk => by first | exact ⟨⟨hk.1.1.1, ⟨hk.1.1.2.1, ⟨hk.1.1.2.2.1, ⟨hk.1.1.2.2.2.1, ⟨hk.1.1.2.2.2.2.1, ⟨hk.1.1.2.2.2.2.2, hk.1.2⟩⟩⟩⟩⟩⟩, hk.2⟩ | (simp only [ne_eq] at hk ⊢; simp [hk]))) hg hat)
         have n4_ := aM (blk_grown (g := gb222) (o := .cells #[.slice Ao33 t218.length co33] 27 (0, 0)) (kA BK222.out) hg (Kd.R_ne HO251.out BK222.out (by decide)))
         have n5_ := aM (Kd.R_after (ok := (fun k_ => some k_ ≠ (.slice Ao26 t211.length co26 : Value).ownBlock ∧ some k_ ≠ (.slice Ao30 t214.length co30 : Value).ownBlock ∧ some k_ ≠ (.slice Ao33 t218.length co33 : Value).ownBlock ∧ some k_ ≠ (.slice Ao41 t229.length co41 : Value).ownBlock ∧ some k_ ≠ (.slice Ao57 t233.length co57 : Value).ownBlock ∧ some k_ ≠ (.slice Ao47 t236.length co47 : Value).ownBlock ∧ some k_ ≠ (v247 : Value).ownBlock)) (by (with_reducible repeat (first | apply Kd.R_alloc | apply Kd.R_drewN | apply Kd.R_drew)); exact Kd.R_mono HO228.out (fun _ hk => by first | exact ⟨⟨hk.1.1.1, ⟨hk.1.1.2.1, ⟨hk.1.1.2.2.1, ⟨hk.1.1.2.2.2.1, ⟨hk.1.1.2.2.2.2.1, ⟨hk.1.1.2.2.2.2.2, hk.1.2⟩⟩⟩⟩⟩⟩, hk.2⟩ | (simp only [ne_eq] at hk ⊢; simp [hk]))) hg hat)
         have n6_ := aM (Kd.R_after (ok := (fun k_ => some k_ ≠ (.slice Ao26 t211.length co26 : Value).ownBlock ∧ some k_ ≠ (.slice Ao30 t214.length co30 : Value).ownBlock ∧ some k_ ≠ (.slice Ao33 t218.length co33 : Value).ownBlock ∧ some k_ ≠ (.slice Ao55 t226.length co55 : Value).ownBlock ∧ some k_ ≠ (.slice Ao57 t233.length co57 : Value).ownBlock ∧ some k_ ≠ (.slice Ao47 t236.length co47 : Value).ownBlock ∧ some k_ ≠ (v247 : Value).ownBlock)) (by (with_reducible repeat (first | apply Kd.R_alloc | apply Kd.R_drewN | apply Kd.R_drew)); exact Kd.R_mono HO231.out (fun _ hk => by first | exact ⟨⟨hk.1.1.1, ⟨hk.1.1.2.1, ⟨hk.1.1.2.2.1, ⟨hk.1.1.2.2.2.1, ⟨hk.1.1.2.2.2.2.1, ⟨hk.1.1.2.2.2.2.2, hk.1.2⟩⟩⟩⟩⟩⟩, hk.2⟩ | (simp only [ne_eq] at hk ⊢; simp [hk]))) hg hat)
         have n7_ := aM (blk_grown (g := gb232) (o := .cells #[.slice Ao41 t229.length co41] 27 (0, 0)) (kA BK232.out) hg (Kd.R_ne HO251.out BK232.out (by decide)))
         have n8_ := aM (Kd.R_after (ok := (fun k_ => some k_ ≠ (.slice Ao26 t211.length co26 : Value).ownBlock ∧ some k_ ≠ (.slice Ao30 t214.length co30 : Value).ownBlock ∧ some k_ ≠ (.slice Ao33 t218.length co33 : Value).ownBlock ∧ some k_ ≠ (.slice Ao55 t226.length co55 : Value).ownBlock ∧ some k_ ≠ (.slice Ao41 t229.length co41 : Value).ownBlock ∧ some k_ ≠ (.slice Ao47 t236.length co47 : Value).ownBlock ∧ some k_ ≠ (v247 : Value).ownBlock)) (by (with_reducible repeat (first | apply Kd.R_alloc | apply Kd.R_drewN | apply Kd.R_drew)); exact Kd.R_mono HO235.out (fun _ hk => by first | exact ⟨⟨hk.1.1.1, ⟨hk.1.1.2.1, ⟨hk.1.1.2.2.1, ⟨hk.1.1.2.2.2.1, ⟨hk.1.1.2.2.2.2.1, ⟨hk.1.1.2.2.2.2.2, hk.1.2⟩⟩⟩⟩⟩⟩, hk.2⟩ | (simp only [ne_eq] at hk ⊢; simp [hk]))) hg hat)
         have n9_ := aM (Kd.R_after (ok := (fun k_ => some k_ ≠ (.slice Ao26 t211.length co26 : Value).ownBlock ∧ some k_ ≠ (.slice Ao30 t214.length co30 : Value).ownBlock ∧ some k_ ≠ (.slice Ao33 t218.length co33 : Value).ownBlock ∧ some k_ ≠ (.slice Ao55 t226.length co55 : Value).ownBlock ∧ some k_ ≠ (.slice Ao41 t229.length co41 : Value).ownBlock ∧ some k_ ≠ (.slice Ao57 t233.length co57 : Value).ownBlock ∧ some k_ ≠ (v247 : Value).ownBlock)) (by (with_reducible repeat (first | apply Kd.R_alloc | apply Kd.R_drewN | apply Kd.R_drew)); exact Kd.R_mono HO238.out (fun _ hk => by first | exact ⟨⟨hk.1.1.1, ⟨hk.1.1.2.1, ⟨hk.1.1.2.2.1, ⟨hk.1.1.2.2.2.1, ⟨hk.1.1.2.2.2.2.1, ⟨hk.1.1.2.2.2.2.2, hk.1.2⟩⟩⟩⟩⟩⟩, hk.2⟩ | (simp only [ne_eq] at hk ⊢; simp [hk]))) hg hat)
         have n10_ := aM (blk_grown (g := gb239) (o := .cells #[.slice Ao47 t236.length co47] 27 (0, 0)) (kA BK239.out) hg (Kd.R_ne HO251.out BK239.out (by decide)))
         have n11_ := aM (Kd.R_after (ok := (fun k_ => some k_ ≠ (.slice Ao26 t211.length co26 : Value).ownBlock ∧ some k_ ≠ (.slice Ao30 t214.length co30 : Value).ownBlock ∧ some k_ ≠ (.slice Ao33 t218.length co33 : Value).ownBlock ∧ some k_ ≠ (.slice Ao55 t226.length co55 : Value).ownBlock ∧ some k_ ≠ (.slice Ao41 t229.length co41 : Value).ownBlock ∧ some k_ ≠ (.slice Ao57 t233.length co57 : Value).ownBlock ∧ some k_ ≠ (.slice Ao47 t236.length co47 : Value).ownBlock)) (rA HO248.out) hg hat)
         have n12_ := aM (hb)
         have n13_ := aM ((show Kd.C (Kd.int .u8) w62 Ao30 y255.length y255 from by rw [Ny255.out]; exact Kd.C_take (m := ((ji14) : Int).toNat) ((Kd.R_reads' (Kd.R_after (ok := (fun k_ => some k_ ≠ (.slice Ao26 t211.length co26 : Value).ownBlock ∧ some k_ ≠ (.slice Ao33 t218.length co33 : Value).ownBlock ∧ some k_ ≠ (.slice Ao55 t226.length co55 : Value).ownBlock ∧ some k_ ≠ (.slice Ao41 t229.length co41 : Value).ownBlock ∧ some k_ ≠ (.slice Ao57 t233.length co57 : Value).ownBlock ∧ some k_ ≠ (.slice Ao47 t236.length co47 : Value).ownBlock ∧ some k_ ≠ (v247 : Value).ownBlock)) (by (with_reducible repeat (first | apply Kd.R_alloc | apply Kd.R_drewN | apply Kd.R_drew)); exact Kd.R_mono HO216.out (fun _ hk => by first | exact ⟨⟨hk.1.1.1, ⟨hk.1.1.2.1, ⟨hk.1.1.2.2.1, ⟨hk.1.1.2.2.2.1, ⟨hk.1.1.2.2.2.2.1, ⟨hk.1.1.2.2.2.2.2, hk.1.2⟩⟩⟩⟩⟩⟩, hk.2⟩ | (simp only [ne_eq] at hk ⊢; simp [hk]))) hg hat)).2.2) KL59.out))
         have n14_ := aM (ho)
         clear HO213
         clear HO216
         clear BK217
         clear HO220
         clear BK222
         clear HO228
         clear HO231
         clear BK232
         clear HO235
         clear HO238
         clear BK239
         clear HO248
         clear HB
         clear HR258
         clear HO251
         have HO213 := n0_
         have HO216 := n1_
         have BK217 := n2_
         have HO220 := n3_
         have BK222 := n4_
         have HO228 := n5_
         have HO231 := n6_
         have BK232 := n7_
         have HO235 := n8_
         have HO238 := n9_
         have BK239 := n10_
         have HO248 := n11_
         have HB := n12_
         have HR258 := n13_
         have HO254 := n14_
         clear n0_ n1_ n2_ n3_ n4_ n5_ n6_ n7_ n8_ n9_ n10_ n11_ n12_ n13_ n14_
         clear ho hb hg hat
         refine hK.out _ _ ((blk_cell BK217.out 0).trans rfl) (fun hHeld => ?_)
         clear hK K
         refine norm_ (a' := ?_) ?_ ?_
         rotate_left
         ·show Act.put _ (some 61) _ = _
          simp only [Act.put, List.setIfInBounds_toArray, List.set_cons_zero, List.set_cons_succ, i64_w, i32_w]
          rfl
         refine one_ (i := 10) (N := some 68) #[true, true, true, true, true, true, true, true, true, true, true, false] rfl rfl (one_of HT_.out (by kernel_rfl)) (by decide) (fun K hK => ?_)
         refine Kd.R_append_rows_step (Kd.int .u8) (w0 := w) w.heap.size (by rfl) (.tmp 61) (.tmp 67) 22 5 (.int .u8 0) 1 rfl Try.underlying22 info5 rfl (by decide) (by omega) v253 y252 y255 _ _ _ (fun k_ => some k_ ≠ (.slice Ao26 t211.length co26 : Value).ownBlock ∧ some k_ ≠ (.slice Ao30 t214.length co30 : Value).ownBlock ∧ some k_ ≠ (.slice Ao33 t218.length co33 : Value).ownBlock ∧ some k_ ≠ (.slice Ao55 t226.length co55 : Value).ownBlock ∧ some k_ ≠ (.slice Ao41 t229.length co41 : Value).ownBlock ∧ some k_ ≠ (.slice Ao57 t233.length co57 : Value).ownBlock ∧ some k_ ≠ (.slice Ao47 t236.length co47 : Value).ownBlock ∧ some k_ ≠ (v247 : Value).ownBlock) (fun _ => False) rfl rfl ?aO ?aR (fun _ _ h => h) (fun _ h => h.elim) ?aF ?aB ?aS ?aL ?_
         (case aR => repeat (first | exact (by repeat (first | (with_reducible exact HR258.out) | (with_reducible refine Kd.C_alloc ?_ _) | (with_reducible refine Kd.C_drewN ?_ _) | (with_reducible refine Kd.C_drew ?_) | exact HR258.out)) | (with_reducible refine Kd.C_alloc ?_ _) | (with_reducible refine Kd.C_drewN ?_ _) | (with_reducible refine Kd.C_drew ?_)))
         (case aB => exact (bS HB.out))
         (case aF => exact (fun k_ hk => ⟨Kd.fresh' (Kd.R_lt (rA HO213.out)) k_ hk, Kd.fresh' (Kd.R_lt (rA HO216.out)) k_ hk, Kd.fresh' (Kd.R_lt (rA HO220.out)) k_ hk, Kd.fresh' (Kd.R_lt (rA HO228.out)) k_ hk, Kd.fresh' (Kd.R_lt (rA HO231.out)) k_ hk, Kd.fresh' (Kd.R_lt (rA HO235.out)) k_ hk, Kd.fresh' (Kd.R_lt (rA HO238.out)) k_ hk, Kd.fresh' (Kd.R_lt (rA HO248.out)) k_ hk⟩))
         (case aO => exact (rA HO254.out))
         (case aS => exact (below_size (bS HB.out)))
         (case aL => have := LMc17.out; omega)
         intro v260 w63 ho hb hg hat
         rw [← Ny259.out] at ho
         have n0_ := aM (Kd.R_after (ok := (fun k_ => some k_ ≠ (.slice Ao30 t214.length co30 : Value).ownBlock ∧ some k_ ≠ (.slice Ao33 t218.length co33 : Value).ownBlock ∧ some k_ ≠ (.slice Ao55 t226.length co55 : Value).ownBlock ∧ some k_ ≠ (.slice Ao41 t229.length co41 : Value).ownBlock ∧ some k_ ≠ (.slice Ao57 t233.length co57 : Value).ownBlock ∧ some k_ ≠ (.slice Ao47 t236.length co47 : Value).ownBlock ∧ some k_ ≠ (v247 : Value).ownBlock)) (rA HO213.out) hg hat)
         have n1_ := aM (Kd.R_after (ok := (fun k_ => some k_ ≠ (.slice Ao26 t211.length co26 : Value).ownBlock ∧ some k_ ≠ (.slice Ao33 t218.length co33 : Value).ownBlock ∧ some k_ ≠ (.slice Ao55 t226.length co55 : Value).ownBlock ∧ some k_ ≠ (.slice Ao41 t229.length co41 : Value).ownBlock ∧ some k_ ≠ (.slice Ao57 t233.length co57 : Value).ownBlock ∧ some k_ ≠ (.slice Ao47 t236.length co47 : Value).ownBlock ∧ some k_ ≠ (v247 : Value).ownBlock)) (rA HO216.out) hg hat)
         have n2_ := aM (blk_grown (g := gb217) (o := .cells #[.slice Ao26 t211.length co26] 27 (0, 0)) (kA BK217.out) hg (Kd.R_ne HO254.out BK217.out (by decide)))
         have n3_ := aM (Kd.R_after (ok := (fun k_ => some k_ ≠ (.slice Ao26 t211.length co26 : Value).ownBlock ∧ some k_ ≠ (.slice Ao30 t214.length co30 : Value).ownBlock ∧ some k_ ≠ (.slice Ao55 t226.length co55 : Value).ownBlock ∧ some k_ ≠ (.slice Ao41 t229.length co41 : Value).ownBlock ∧ some k_ ≠ (.slice Ao57 t233.length co57 : Value).ownBlock ∧ some k_ ≠ (.slice Ao47 t236.length co47 : Value).ownBlock ∧ some k_ ≠ (v247 : Value).ownBlock)) (rA HO220.out) hg hat)
         have n4_ := aM (blk_grown (g := gb222) (o := .cells #[.slice Ao33 t218.length co33] 27 (0, 0)) (kA BK222.out) hg (Kd.R_ne HO254.out BK222.out (by decide)))
         have n5_ := aM (Kd.R_after (ok := (fun k_ => some k_ ≠ (.slice Ao26 t211.length co26 : Value).ownBlock ∧ some k_ ≠ (.slice Ao30 t214.length co30 : Value).ownBlock ∧ some k_ ≠ (.slice Ao33 t218.length co33 : Value).ownBlock ∧ some k_ ≠ (.slice Ao41 t229.length co41 : Value).ownBlock ∧ some k_ ≠ (.slice Ao57 t233.length co57 : Value).ownBlock ∧ some k_ ≠ (.slice Ao47 t236.length co47 : Value).ownBlock ∧ some k_ ≠ (v247 : Value).ownBlock)) (rA HO228.out) hg hat)
         have n6_ := aM (Kd.R_after (ok := (fun k_ => some k_ ≠ (.slice Ao26 t211.length co26 : Value).ownBlock ∧ some k_ ≠ (.slice Ao30 t214.length co30 : Value).ownBlock ∧ some k_ ≠ (.slice Ao33 t218.length co33 : Value).ownBlock ∧ some k_ ≠ (.slice Ao55 t226.length co55 : Value).ownBlock ∧ some k_ ≠ (.slice Ao57 t233.length co57 : Value).ownBlock ∧ some k_ ≠ (.slice Ao47 t236.length co47 : Value).ownBlock ∧ some k_ ≠ (v247 : Value).ownBlock)) (rA HO231.out) hg hat)
         have n7_ := aM (blk_grown (g := gb232) (o := .cells #[.slice Ao41 t229.length co41] 27 (0, 0)) (kA BK232.out) hg (Kd.R_ne HO254.out BK232.out (by decide)))
         have n8_ := aM (Kd.R_after (ok := (fun k_ => some k_ ≠ (.slice Ao26 t211.length co26 : Value).ownBlock ∧ some k_ ≠ (.slice Ao30 t214.length co30 : Value).ownBlock ∧ some k_ ≠ (.slice Ao33 t218.length co33 : Value).ownBlock ∧ some k_ ≠ (.slice Ao55 t226.length co55 : Value).ownBlock ∧ some k_ ≠ (.slice Ao41 t229.length co41 : Value).ownBlock ∧ some k_ ≠ (.slice Ao47 t236.length co47 : Value).ownBlock ∧ some k_ ≠ (v247 : Value).ownBlock)) (rA HO235.out) hg hat)
         have n9_ := aM (Kd.R_after (ok := (fun k_ => some k_ ≠ (.slice Ao26 t211.length co26 : Value).ownBlock ∧ some k_ ≠ (.slice Ao30 t214.length co30 : Value).ownBlock ∧ some k_ ≠ (.slice Ao33 t218.length co33 : Value).ownBlock ∧ some k_ ≠ (.slice Ao55 t226.length co55 : Value).ownBlock ∧ some k_ ≠ (.slice Ao41 t229.length co41 : Value).ownBlock ∧ some k_ ≠ (.slice Ao57 t233.length co57 : Value).ownBlock ∧ some k_ ≠ (v247 : Value).ownBlock)) (rA HO238.out) hg hat)
         have n10_ := aM (blk_grown (g := gb239) (o := .cells #[.slice Ao47 t236.length co47] 27 (0, 0)) (kA BK239.out) hg (Kd.R_ne HO254.out BK239.out (by decide)))
         have n11_ := aM (Kd.R_after (ok := (fun k_ => some k_ ≠ (.slice Ao26 t211.length co26 : Value).ownBlock ∧ some k_ ≠ (.slice Ao30 t214.length co30 : Value).ownBlock ∧ some k_ ≠ (.slice Ao33 t218.length co33 : Value).ownBlock ∧ some k_ ≠ (.slice Ao55 t226.length co55 : Value).ownBlock ∧ some k_ ≠ (.slice Ao41 t229.length co41 : Value).ownBlock ∧ some k_ ≠ (.slice Ao57 t233.length co57 : Value).ownBlock ∧ some k_ ≠ (.slice Ao47 t236.length co47 : Value).ownBlock)) (rA HO248.out) hg hat)
         have n12_ := aM (hb)
         have n13_ := aM ((show Kd.C (Kd.int .u8) w63 Ao30 y255.length y255 from by rw [Ny255.out]; exact Kd.C_take (m := ((ji14) : Int).toNat) ((Kd.R_reads' (Kd.R_after (ok := (fun k_ => some k_ ≠ (.slice Ao26 t211.length co26 : Value).ownBlock ∧ some k_ ≠ (.slice Ao33 t218.length co33 : Value).ownBlock ∧ some k_ ≠ (.slice Ao55 t226.length co55 : Value).ownBlock ∧ some k_ ≠ (.slice Ao41 t229.length co41 : Value).ownBlock ∧ some k_ ≠ (.slice Ao57 t233.length co57 : Value).ownBlock ∧ some k_ ≠ (.slice Ao47 t236.length co47 : Value).ownBlock ∧ some k_ ≠ (v247 : Value).ownBlock)) (rA HO216.out) hg hat)).2.2) KL59.out))
         have n14_ := aM (ho)
         clear HO213
         clear HO216
         clear BK217
         clear HO220
         clear BK222
         clear HO228
         clear HO231
         clear BK232
         clear HO235
         clear HO238
         clear BK239
         clear HO248
         clear HB
         clear HR258
         clear HO254
         have HO213 := n0_
         have HO216 := n1_
         have BK217 := n2_
         have HO220 := n3_
         have BK222 := n4_
         have HO228 := n5_
         have HO231 := n6_
         have BK232 := n7_
         have HO235 := n8_
         have HO238 := n9_
         have BK239 := n10_
         have HO248 := n11_
         have HB := n12_
         have HR258 := n13_
         have HO261 := n14_
         clear n0_ n1_ n2_ n3_ n4_ n5_ n6_ n7_ n8_ n9_ n10_ n11_ n12_ n13_ n14_
         clear ho hb hg hat
         refine hK.out _ _ ((blk_cell BK217.out 0).trans rfl) (fun hHeld => ?_)
         clear hK K
         refine norm_ (a' := ?_) ?_ ?_
         rotate_left
         ·show Act.put _ (some 68) _ = _
          simp only [Act.put, List.setIfInBounds_toArray, List.set_cons_zero, List.set_cons_succ, i64_w, i32_w]
          rfl
         refine pure_ (i := 11) (N := some 13) (v := ?_) (a' := ?_) #[true, true, true, true, true, true, true, true, true, true, true, true] rfl rfl (any_of HT_.out (by kernel_rfl)) (fun _ _ _ h => h) (Or.inl ⟨by rfl, ?_⟩) ?_ ?_
         rotate_left
         ·intro w'
          go_simp
          with_reducible rfl
         rotate_left
         ·simp only [Act.put, List.setIfInBounds_toArray, List.set_cons_zero, List.set_cons_succ, i64_w, i32_w]
          rfl
         refine done_ (done_of HT_.out (by kernel_rfl)) ?_
         obtain ⟨hcz64_0, hfz64_0⟩ := bk1 BK222.out
         by_cases c19 : t262 = true
         ·subst c19
          have H1 : ((laws_sameBytes.f k y246 y259).bind fun t263 => (if t263 = true then (if (t236.length : Int) = 0 then (if t221 = 0 then (some true) else (some ((t218.length : Int) == 300))) else (some false)) else (some false))) = some r := by rw [if_pos rfl] at H; exact H
          clear H
          have H := H1
          clear H1
          replace H := Option.bind_eq_some_iff.mp H
          obtain ⟨t263, A200, H⟩ := H
          replace H : (if t263 = true then (if (t236.length : Int) = 0 then (if t221 = 0 then (some true) else (some ((t218.length : Int) == 300))) else (some false)) else (some false)) = some r := H
          have A20 := aM A200
          clear A200
          by_cases c21 : t263 = true
          ·subst c21
           have H1 : (if (t236.length : Int) = 0 then (if t221 = 0 then (some true) else (some ((t218.length : Int) == 300))) else (some false)) = some r := by rw [if_pos rfl] at H; exact H
           clear H
           have H := H1
           clear H1
           by_cases c22 : (t236.length : Int) = 0
           ·rw [if_pos c22] at H
            have c22b0 : ((t236.length : Int) == 0) = true := beq_iff_eq.mpr c22
            have c22b1 : ((t236.length : Int) != 0) = false := bne_eq_false_iff_eq.mpr c22
            clear c22
            by_cases c23 : t221 = 0
            ·rw [if_pos c23] at H
             have c23b0 : (t221 == 0) = true := beq_iff_eq.mpr c23
             have c23b1 : (t221 != 0) = false := bne_eq_false_iff_eq.mpr c23
             clear c23
             obtain rfl := Option.some.inj H
             try go_wp2_with (first | ((with_reducible refine gate_callee (f := 20) rfl ?_); refine gL (some 70) rfl rfl Try.func20 (by kernel_rfl) rfl #[.agg #[.slice Ao33 t218.length co33]] rfl ?_; (with_reducible refine (impl_RingOk.calls _ _ t218 true _ ?side1 ?side2 A18.out).mono ?_); (case side1 => exact cR HO220.out); (case side2 => exact (Kd.R_reads' HO220.out).2.1); rintro e w65 ⟨rfl, hb⟩; refine ⟨_, rfl, ?_⟩; have _ := aM (rB HO213.out hb); have _ := aM (rB HO216.out hb); have _ := aM (rB HO220.out hb); have _ := aM (rB HO228.out hb); have _ := aM (rB HO231.out hb); have _ := aM (rB HO235.out hb); have _ := aM (rB HO238.out hb); have _ := aM (rB HO248.out hb); have _ := aM (rB HO261.out hb); have _ := aM (kB BK217.out hb); have _ := aM (kB BK222.out hb); have _ := aM (kB BK232.out hb); have _ := aM (kB BK239.out hb); have _ := aM (Kd.C_below (by repeat (first | (with_reducible exact HR258.out) | (with_reducible refine Kd.C_alloc ?_ _) | (with_reducible refine Kd.C_drewN ?_ _) | (with_reducible refine Kd.C_drew ?_) | exact HR258.out)) hb); have _ := aM (below_step (bS HB.out) hb); clear HO213 HO216 HO220 HO228 HO231 HO235 HO238 HO248 HO261 BK217 BK222 BK232 BK239 HR258 HB; rename_i HO213 HO216 HO220 HO228 HO231 HO235 HO238 HO248 HO261 BK217 BK222 BK232 BK239 HR258 HB; (try clear hb); obtain ⟨Ao66, co66, eo66⟩ := Kd.R_slice HO248.out; subst eo66; obtain ⟨Ao67, co67, eo67⟩ := Kd.R_slice HO261.out; subst eo67) | (go_at_call 66; (with_reducible refine (laws_sameBytes.calls k _ _ y246 _ _ y259 true _ ?side1 ?side2 ?side3 ?side4 A20.out).mono ?_); (case side1 => exact cR HO248.out); (case side2 => exact (Kd.R_reads' HO248.out).2.1); (case side3 => exact cR HO261.out); (case side4 => exact (Kd.R_reads' HO261.out).2.1); rintro e w' ⟨rfl, ⟨nd, rfl⟩⟩; obtain ⟨hcz68_0, hfz68_0⟩ := bk1 BK239.out))
             go_ret
             exact ⟨by first | rfl | (simp [errW_none, errW_some] <;> rfl) | (simp only [← hji14]; first | rfl | (simp [errW_none, errW_some] <;> rfl)) | (simp [*, errW_none, errW_some] <;> rfl), bS HB.out⟩
            ·rw [if_neg c23] at H
             have c23b0 : (t221 == 0) = false := beq_eq_false_iff_ne.mpr c23
             have c23b1 : (t221 != 0) = true := bne_iff_ne.mpr c23
             obtain rfl := Option.some.inj H
             try go_wp2_with (first | ((with_reducible refine gate_callee (f := 20) rfl ?_); refine gL (some 70) rfl rfl Try.func20 (by kernel_rfl) rfl #[.agg #[.slice Ao33 t218.length co33]] rfl ?_; (with_reducible refine (impl_RingOk.calls _ _ t218 true _ ?side1 ?side2 A18.out).mono ?_); (case side1 => exact cR HO220.out); (case side2 => exact (Kd.R_reads' HO220.out).2.1); rintro e w110 ⟨rfl, hb⟩; refine ⟨_, rfl, ?_⟩; have _ := aM (rB HO213.out hb); have _ := aM (rB HO216.out hb); have _ := aM (rB HO220.out hb); have _ := aM (rB HO228.out hb); have _ := aM (rB HO231.out hb); have _ := aM (rB HO235.out hb); have _ := aM (rB HO238.out hb); have _ := aM (rB HO248.out hb); have _ := aM (rB HO261.out hb); have _ := aM (kB BK217.out hb); have _ := aM (kB BK222.out hb); have _ := aM (kB BK232.out hb); have _ := aM (kB BK239.out hb); have _ := aM (Kd.C_below (by repeat (first | (with_reducible exact HR258.out) | (with_reducible refine Kd.C_alloc ?_ _) | (with_reducible refine Kd.C_drewN ?_ _) | (with_reducible refine Kd.C_drew ?_) | exact HR258.out)) hb); have _ := aM (below_step (bS HB.out) hb); clear HO213 HO216 HO220 HO228 HO231 HO235 HO238 HO248 HO261 BK217 BK222 BK232 BK239 HR258 HB; rename_i HO213 HO216 HO220 HO228 HO231 HO235 HO238 HO248 HO261 BK217 BK222 BK232 BK239 HR258 HB; (try clear hb); obtain ⟨Ao111, co111, eo111⟩ := Kd.R_slice HO248.out; subst eo111; obtain ⟨Ao112, co112, eo112⟩ := Kd.R_slice HO261.out; subst eo112) | (go_at_call 66; (with_reducible refine (laws_sameBytes.calls k _ _ y246 _ _ y259 true _ ?side1 ?side2 ?side3 ?side4 A20.out).mono ?_); (case side1 => exact cR HO248.out); (case side2 => exact (Kd.R_reads' HO248.out).2.1); (case side3 => exact cR HO261.out); (case side4 => exact (Kd.R_reads' HO261.out).2.1); rintro e w' ⟨rfl, ⟨nd, rfl⟩⟩; obtain ⟨hcz113_0, hfz113_0⟩ := bk1 BK239.out; obtain ⟨hcz114_0, hfz114_0⟩ := bk1 BK222.out))
             go_ret
             exact ⟨by first | rfl | (simp [errW_none, errW_some] <;> rfl) | (simp only [← hji14]; first | rfl | (simp [errW_none, errW_some] <;> rfl)) | (simp [*, errW_none, errW_some] <;> rfl), bS HB.out⟩
           ·rw [if_neg c22] at H
            have c22b0 : ((t236.length : Int) == 0) = false := beq_eq_false_iff_ne.mpr c22
            have c22b1 : ((t236.length : Int) != 0) = true := bne_iff_ne.mpr c22
            have c22b2 : ¬ (t236 = []) := fun h_ => c22 (by rw [h_]; rfl)
            obtain rfl := Option.some.inj H
            try go_wp2_with (first | ((with_reducible refine gate_callee (f := 20) rfl ?_); refine gL (some 70) rfl rfl Try.func20 (by kernel_rfl) rfl #[.agg #[.slice Ao33 t218.length co33]] rfl ?_; (with_reducible refine (impl_RingOk.calls _ _ t218 true _ ?side1 ?side2 A18.out).mono ?_); (case side1 => exact cR HO220.out); (case side2 => exact (Kd.R_reads' HO220.out).2.1); rintro e w156 ⟨rfl, hb⟩; refine ⟨_, rfl, ?_⟩; have _ := aM (rB HO213.out hb); have _ := aM (rB HO216.out hb); have _ := aM (rB HO220.out hb); have _ := aM (rB HO228.out hb); have _ := aM (rB HO231.out hb); have _ := aM (rB HO235.out hb); have _ := aM (rB HO238.out hb); have _ := aM (rB HO248.out hb); have _ := aM (rB HO261.out hb); have _ := aM (kB BK217.out hb); have _ := aM (kB BK222.out hb); have _ := aM (kB BK232.out hb); have _ := aM (kB BK239.out hb); have _ := aM (Kd.C_below (by repeat (first | (with_reducible exact HR258.out) | (with_reducible refine Kd.C_alloc ?_ _) | (with_reducible refine Kd.C_drewN ?_ _) | (with_reducible refine Kd.C_drew ?_) | exact HR258.out)) hb); have _ := aM (below_step (bS HB.out) hb); clear HO213 HO216 HO220 HO228 HO231 HO235 HO238 HO248 HO261 BK217 BK222 BK232 BK239 HR258 HB; rename_i HO213 HO216 HO220 HO228 HO231 HO235 HO238 HO248 HO261 BK217 BK222 BK232 BK239 HR258 HB; (try clear hb); obtain ⟨Ao157, co157, eo157⟩ := Kd.R_slice HO248.out; subst eo157; obtain ⟨Ao158, co158, eo158⟩ := Kd.R_slice HO261.out; subst eo158) | (go_at_call 66; (with_reducible refine (laws_sameBytes.calls k _ _ y246 _ _ y259 true _ ?side1 ?side2 ?side3 ?side4 A20.out).mono ?_); (case side1 => exact cR HO248.out); (case side2 => exact (Kd.R_reads' HO248.out).2.1); (case side3 => exact cR HO261.out); (case side4 => exact (Kd.R_reads' HO261.out).2.1); rintro e w' ⟨rfl, ⟨nd, rfl⟩⟩; obtain ⟨hcz159_0, hfz159_0⟩ := bk1 BK239.out))
            go_ret
            exact ⟨by first | rfl | (simp [errW_none, errW_some] <;> rfl) | (simp only [← hji14]; first | rfl | (simp [errW_none, errW_some] <;> rfl)) | (simp [*, errW_none, errW_some] <;> rfl), bS HB.out⟩
          ·replace c21 := Bool.eq_false_iff.mpr c21
           subst c21
           have H1 : (some false) = some r := by rw [if_neg (show ¬ (false = true) by decide)] at H; exact H
           clear H
           have H := H1
           clear H1
           obtain rfl := Option.some.inj H
           try go_wp2_with (first | ((with_reducible refine gate_callee (f := 20) rfl ?_); refine gL (some 70) rfl rfl Try.func20 (by kernel_rfl) rfl #[.agg #[.slice Ao33 t218.length co33]] rfl ?_; (with_reducible refine (impl_RingOk.calls _ _ t218 true _ ?side1 ?side2 A18.out).mono ?_); (case side1 => exact cR HO220.out); (case side2 => exact (Kd.R_reads' HO220.out).2.1); rintro e w201 ⟨rfl, hb⟩; refine ⟨_, rfl, ?_⟩; have _ := aM (rB HO213.out hb); have _ := aM (rB HO216.out hb); have _ := aM (rB HO220.out hb); have _ := aM (rB HO228.out hb); have _ := aM (rB HO231.out hb); have _ := aM (rB HO235.out hb); have _ := aM (rB HO238.out hb); have _ := aM (rB HO248.out hb); have _ := aM (rB HO261.out hb); have _ := aM (kB BK217.out hb); have _ := aM (kB BK222.out hb); have _ := aM (kB BK232.out hb); have _ := aM (kB BK239.out hb); have _ := aM (Kd.C_below (by repeat (first | (with_reducible exact HR258.out) | (with_reducible refine Kd.C_alloc ?_ _) | (with_reducible refine Kd.C_drewN ?_ _) | (with_reducible refine Kd.C_drew ?_) | exact HR258.out)) hb); have _ := aM (below_step (bS HB.out) hb); clear HO213 HO216 HO220 HO228 HO231 HO235 HO238 HO248 HO261 BK217 BK222 BK232 BK239 HR258 HB; rename_i HO213 HO216 HO220 HO228 HO231 HO235 HO238 HO248 HO261 BK217 BK222 BK232 BK239 HR258 HB; (try clear hb); obtain ⟨Ao202, co202, eo202⟩ := Kd.R_slice HO248.out; subst eo202; obtain ⟨Ao203, co203, eo203⟩ := Kd.R_slice HO261.out; subst eo203) | (go_at_call 66; (with_reducible refine (laws_sameBytes.calls k _ _ y246 _ _ y259 false _ ?side1 ?side2 ?side3 ?side4 A20.out).mono ?_); (case side1 => exact cR HO248.out); (case side2 => exact (Kd.R_reads' HO248.out).2.1); (case side3 => exact cR HO261.out); (case side4 => exact (Kd.R_reads' HO261.out).2.1); rintro e w' ⟨rfl, ⟨nd, rfl⟩⟩))
           go_ret
           exact ⟨by first | rfl | (simp [errW_none, errW_some] <;> rfl) | (simp only [← hji14]; first | rfl | (simp [errW_none, errW_some] <;> rfl)) | (simp [*, errW_none, errW_some] <;> rfl), bS HB.out⟩
         ·replace c19 := Bool.eq_false_iff.mpr c19
          subst c19
          have H1 : (some false) = some r := by rw [if_neg (show ¬ (false = true) by decide)] at H; exact H
          clear H
          have H := H1
          clear H1
          obtain rfl := Option.some.inj H
          try go_wp2_with (first | ((with_reducible refine gate_callee (f := 20) rfl ?_); refine gL (some 70) rfl rfl Try.func20 (by kernel_rfl) rfl #[.agg #[.slice Ao33 t218.length co33]] rfl ?_; (with_reducible refine (impl_RingOk.calls _ _ t218 false _ ?side1 ?side2 A18.out).mono ?_); (case side1 => exact cR HO220.out); (case side2 => exact (Kd.R_reads' HO220.out).2.1); rintro e w245 ⟨rfl, hb⟩; refine ⟨_, rfl, ?_⟩; have _ := aM (rB HO213.out hb); have _ := aM (rB HO216.out hb); have _ := aM (rB HO220.out hb); have _ := aM (rB HO228.out hb); have _ := aM (rB HO231.out hb); have _ := aM (rB HO235.out hb); have _ := aM (rB HO238.out hb); have _ := aM (rB HO248.out hb); have _ := aM (rB HO261.out hb); have _ := aM (kB BK217.out hb); have _ := aM (kB BK222.out hb); have _ := aM (kB BK232.out hb); have _ := aM (kB BK239.out hb); have _ := aM (Kd.C_below (by repeat (first | (with_reducible exact HR258.out) | (with_reducible refine Kd.C_alloc ?_ _) | (with_reducible refine Kd.C_drewN ?_ _) | (with_reducible refine Kd.C_drew ?_) | exact HR258.out)) hb); have _ := aM (below_step (bS HB.out) hb); clear HO213 HO216 HO220 HO228 HO231 HO235 HO238 HO248 HO261 BK217 BK222 BK232 BK239 HR258 HB; rename_i HO213 HO216 HO220 HO228 HO231 HO235 HO238 HO248 HO261 BK217 BK222 BK232 BK239 HR258 HB; (try clear hb)))
          go_ret
          exact ⟨by first | rfl | (simp [errW_none, errW_some] <;> rfl) | (simp only [← hji14]; first | rfl | (simp [errW_none, errW_some] <;> rfl)) | (simp [*, errW_none, errW_some] <;> rfl), bS HB.out⟩
        ·rw [if_neg c17] at H
         exact absurd H (by simp)
       ·rw [if_neg c16] at H
        exact absurd H (by simp)
      ·rw [if_neg c15] at H
       exact absurd H (by simp)
     ·rw [if_neg c13] at H
      exact absurd H (by simp)
    ·rw [if_neg c12] at H
     exact absurd H (by simp)
   ·rw [if_neg c11] at H
    exact absurd H (by simp)
  ·replace c7 := Bool.eq_false_iff.mpr c7
   subst c7
   have H1 : (if t221 = (t214.length : Int) then ((impl_RingOk.f t211).bind fun t224 => (some (!t224))) else (some false)) = some r := by rw [if_neg (show ¬ (false = true) by decide)] at H; exact H
   clear H
   have H := H1
   clear H1
   by_cases c246 : t221 = (t214.length : Int)
   ·rw [if_pos c246] at H
    have c246b0 : (t221 == (t214.length : Int)) = true := beq_iff_eq.mpr c246
    have c246b1 : (t221 != (t214.length : Int)) = false := bne_eq_false_iff_eq.mpr c246
    clear c246
    replace H := Option.bind_eq_some_iff.mp H
    obtain ⟨t224, A2470, H⟩ := H
    replace H : (some (!t224)) = some r := H
    have A247 := aM A2470
    clear A2470
    obtain rfl := Option.some.inj H
    go_enter Try.func13, Try.ntmps13
    go_wp2_with (first | ((with_reducible refine gate_callee (f := 22) rfl ?_); refine gL (some 15) rfl rfl Try.func22 (by kernel_rfl) rfl #[.slice A0 l0.length c0] rfl ?_; (with_reducible refine (laws_big.calls _ _ l0 false _ ?side1 ?side2 A2.out).mono ?_); (case side1 => repeat (first | exact HR0.out | (with_reducible refine Kd.C_alloc ?_ _) | (with_reducible refine Kd.C_drewN ?_ _) | (with_reducible refine Kd.C_drew ?_))); (case side2 => exact HC0.out); rintro e w' ⟨rfl, ⟨nd, rfl⟩⟩; refine ⟨_, rfl, ?_⟩) | ((with_reducible refine gate_callee (f := 64) rfl ?_); refine gL (some 18) rfl rfl Try.func64 (by kernel_rfl) rfl #[.slice A0 l0.length c0] rfl ?_; (with_reducible refine (spec_DrawRingPut.calls k _ _ l0 t211 t214 _ ?side1 ?side2 A4.out).mono ?_); (case side1 => repeat (first | exact HR0.out | (with_reducible refine Kd.C_alloc ?_ _) | (with_reducible refine Kd.C_drewN ?_ _) | (with_reducible refine Kd.C_drew ?_))); (case side2 => exact HC0.out); rintro e w248 ⟨v212, v215, rfl, ho0, ho1, hb⟩; refine ⟨_, rfl, ?_⟩; have _ := aM (Kd.R_lower ho0 (below_size (bS HB.out))); have _ := aM (Kd.R_lower ho1 (below_size (bS HB.out))); have _ := aM (below_step (bS HB.out) hb); clear HB; rename_i HO213 HO216 HB; (try clear hb); (try clear ho0); (try clear ho1)) | ((with_reducible refine gate_dst (N := 3) rfl ?_); (try (refine gate_guard (by rfl) ?_; dsimp only)); refine box_event ?hg (N := 3) ?hd (cs := #[.slice none 0 0]) (t := 27) ?hr ?_; (case hd => rfl); (case hg => rfl); (case hr => first | (go_simp; done) | (go_simp; rfl)); intro gb217 hg w249 hbox hb; have _ := aM (rB HO213.out hb); have _ := aM (rB HO216.out hb); have _ := aM (below_step (bS HB.out) hb); have _ := aM (hbox); have _ := aM (leG hg (bS HB.out)); have _ := aM (leG hg (bS HB.out)); clear HO213 HO216 HB; rename_i HO213 HO216 HB BK217 GW217 GE217; clear hb hbox hg; obtain ⟨Ao250, co250, eo250⟩ := Kd.R_slice HO213.out; subst eo250; obtain ⟨hcz251_0, hfz251_0⟩ := bk1 BK217.out) | ((with_reducible refine gate_store (t := 27) (p := 3) rfl ?_); refine store_event (t := 27) (p := 3) (v := ?vo_w252) (w1 := (w249.setCell ⟨gb217, 0, none⟩ (.slice Ao250 t211.length co250))) ?hg ?ho ?hn ?hr ?_; (case ho => rfl); (case hg => rfl); (case hn => rfl); (case hr => first | (go_simp; done) | (go_simp; rfl)); intro w252 hw; have n0_ : Aside0 (Kd.R (Kd.int .u8) 5 w252 w.heap.size (fun k_ => some k_ ≠ (v215 : Value).ownBlock) (.slice Ao250 t211.length co250) t211) := ⟨(by rw [hw]; exact (by (with_reducible repeat (first | apply Kd.R_alloc | apply Kd.R_drewN | apply Kd.R_drew)); exact Kd.R_mono (Kd.R_far (p := ⟨gb217, 0, none⟩) (Kd.R_types HO213.out BK217.out (by decide)) (fun _ hk => hk.2) (.slice Ao250 t211.length co250)) (fun _ hk => hk.1)))⟩; have n1_ : Aside0 (Kd.R (Kd.int .u8) 5 w252 w.heap.size (fun k_ => some k_ ≠ (.slice Ao250 t211.length co250 : Value).ownBlock) v215 t214) := ⟨(by rw [hw]; exact (by (with_reducible repeat (first | apply Kd.R_alloc | apply Kd.R_drewN | apply Kd.R_drew)); exact Kd.R_mono (Kd.R_far (p := ⟨gb217, 0, none⟩) (Kd.R_types HO216.out BK217.out (by decide)) (fun _ hk => hk.2) (.slice Ao250 t211.length co250)) (fun _ hk => hk.1)))⟩; have n2_ : Aside0 (w252.heap[gb217]? = some (.cells #[.slice Ao250 t211.length co250] 27 (0, 0))) := ⟨(by rw [hw]; exact (kP1 BK217.out))⟩; have n3_ : Aside0 (Below w.heap.size w w252) := ⟨(by rw [hw]; exact (bS HB.out))⟩; clear hw HO213 HO216 BK217 HB; have HO213 := n0_; have HO216 := n1_; have BK217 := n2_; have HB := n3_; clear n0_ n1_ n2_ n3_; obtain ⟨hcz253_0, hfz253_0⟩ := bk1 BK217.out; obtain ⟨Ao254, co254, eo254⟩ := Kd.R_slice HO216.out; subst eo254) | ((with_reducible refine gate_callee (f := 65) rfl ?_); refine gL (some 24) rfl rfl Try.func65 (by kernel_rfl) rfl #[.agg #[.slice Ao250 t211.length co250], .slice Ao254 t214.length co254] rfl ?_; (with_reducible refine (impl_RingPut.calls (fun k_ => some k_ = (.slice Ao250 t211.length co250 : Value).ownBlock) _ _ t211 (fun k_ => some k_ = (.slice Ao254 t214.length co254 : Value).ownBlock) _ _ t214 t218 t221 _ ?side1 ?side2 A5.out).mono ?_); (case side1 => exact Kd.R_V (Kd.R_tight rfl (Kd.R_types (HO213.out) BK217.out (by decide)))); (case side2 => exact Kd.R_V (Kd.R_tight rfl (Kd.R_types (HO216.out) BK217.out (by decide)))); rintro e w255 ⟨v219, rfl, ho0, hb⟩; refine ⟨_, rfl, ?_⟩; have _ := aM (Kd.R_elder' (rA HO213.out) (Kd.R_base ho0) hb); have _ := aM (Kd.R_elder' (rA HO216.out) (Kd.R_base ho0) hb); have _ := aM (Kd.R_lower (Kd.R_new' (Kd.R_new' (Kd.R_mono (ok' := fun k_ => True) ho0 (fun _ hk_ => trivial)) (Kd.R_lt (rA HO213.out))) (Kd.R_lt (rA HO216.out))) (below_size (bS HB.out))); have _ := aM (kB BK217.out hb); have _ := aM (below_step (bS HB.out) hb); clear HO213 HO216 BK217 HB; rename_i HO213 HO216 HO220 BK217 HB; (try clear hb); (try clear ho0)) | ((with_reducible refine gate_dst (N := 5) rfl ?_); (try (refine gate_guard (by rfl) ?_; dsimp only)); refine box_event ?hg (N := 5) ?hd (cs := #[.slice none 0 0]) (t := 27) ?hr ?_; (case hd => rfl); (case hg => rfl); (case hr => first | (go_simp; done) | (go_simp; rfl)); intro gb222 hg w256 hbox hb; have _ := aM (rB HO213.out hb); have _ := aM (rB HO216.out hb); have _ := aM (rB HO220.out hb); have _ := aM (kB BK217.out hb); have _ := aM (below_step (bS HB.out) hb); have _ := aM (hbox); have _ := aM (leG hg (bS HB.out)); have _ := aM (leG hg (bS HB.out)); have _ := aM (neL hg (kA BK217.out)); have _ := aM (neG hg (kA BK217.out)); clear HO213 HO216 HO220 BK217 HB; rename_i HO213 HO216 HO220 BK217 HB BK222 GW222 GE222 NB217_222 NB222_217; clear hb hbox hg; obtain ⟨Ao257, co257, eo257⟩ := Kd.R_slice HO220.out; subst eo257; have hnb258 := NB222_217.out; have hnc258 := NB217_222.out; obtain ⟨hcz259_0, hfz259_0⟩ := bk1 BK222.out; obtain ⟨hcz260_0, hfz260_0⟩ := bk1 BK217.out) | ((with_reducible refine gate_callee (f := 18) rfl ?_); refine gL (some 28) rfl rfl Try.func18 (by kernel_rfl) rfl #[.agg #[.slice Ao250 t211.length co250]] rfl ?_; (with_reducible refine (spec_RingOk.calls _ _ t211 false _ ?side1 ?side2 A6.out).mono ?_); (case side1 => exact (Kd.R_reads' (rF1 HO213.out BK222.out)).2.2); (case side2 => exact (Kd.R_reads' HO213.out).2.1); rintro e w261 ⟨rfl, hb⟩; refine ⟨_, rfl, ?_⟩; have _ := aM (Kd.R_below (rF1 HO213.out BK222.out) hb); have _ := aM (Kd.R_below (rF1 HO216.out BK222.out) hb); have _ := aM (Kd.R_below (rF1 HO220.out BK222.out) hb); have _ := aM (blk_below (kF1 BK217.out NB217_222.out) hb); have _ := aM (blk_below (kP1 BK222.out) hb); have _ := aM (below_step (bS HB.out) hb); clear HO213 HO216 HO220 BK217 BK222 HB; rename_i HO213 HO216 HO220 BK217 BK222 HB; (try clear hb); obtain ⟨hcz262_0, hfz262_0⟩ := bk1 BK217.out) | (go_at_call 20; (with_reducible refine (impl_RingOk.calls _ _ t211 t224 _ ?side1 ?side2 A247.out).mono ?_); (case side1 => exact cR HO213.out); (case side2 => exact (Kd.R_reads' HO213.out).2.1); rintro e w263 ⟨rfl, hb⟩; have _ := aM (rB HO213.out hb); have _ := aM (rB HO216.out hb); have _ := aM (rB HO220.out hb); have _ := aM (kB BK217.out hb); have _ := aM (kB BK222.out hb); have _ := aM (below_step (bS HB.out) hb); clear HO213 HO216 HO220 BK217 BK222 HB; rename_i HO213 HO216 HO220 BK217 BK222 HB; (try clear hb)))
    go_ret
    exact ⟨by first | rfl | (simp [errW_none, errW_some] <;> rfl) | (simp [*, errW_none, errW_some] <;> rfl), bS HB.out⟩
   ·rw [if_neg c246] at H
    have c246b0 : (t221 == (t214.length : Int)) = false := beq_eq_false_iff_ne.mpr c246
    have c246b1 : (t221 != (t214.length : Int)) = true := bne_iff_ne.mpr c246
    obtain rfl := Option.some.inj H
    go_enter Try.func13, Try.ntmps13
    go_wp2_with (first | ((with_reducible refine gate_callee (f := 22) rfl ?_); refine gL (some 15) rfl rfl Try.func22 (by kernel_rfl) rfl #[.slice A0 l0.length c0] rfl ?_; (with_reducible refine (laws_big.calls _ _ l0 false _ ?side1 ?side2 A2.out).mono ?_); (case side1 => repeat (first | exact HR0.out | (with_reducible refine Kd.C_alloc ?_ _) | (with_reducible refine Kd.C_drewN ?_ _) | (with_reducible refine Kd.C_drew ?_))); (case side2 => exact HC0.out); rintro e w' ⟨rfl, ⟨nd, rfl⟩⟩; refine ⟨_, rfl, ?_⟩) | ((with_reducible refine gate_callee (f := 64) rfl ?_); refine gL (some 18) rfl rfl Try.func64 (by kernel_rfl) rfl #[.slice A0 l0.length c0] rfl ?_; (with_reducible refine (spec_DrawRingPut.calls k _ _ l0 t211 t214 _ ?side1 ?side2 A4.out).mono ?_); (case side1 => repeat (first | exact HR0.out | (with_reducible refine Kd.C_alloc ?_ _) | (with_reducible refine Kd.C_drewN ?_ _) | (with_reducible refine Kd.C_drew ?_))); (case side2 => exact HC0.out); rintro e w264 ⟨v212, v215, rfl, ho0, ho1, hb⟩; refine ⟨_, rfl, ?_⟩; have _ := aM (Kd.R_lower ho0 (below_size (bS HB.out))); have _ := aM (Kd.R_lower ho1 (below_size (bS HB.out))); have _ := aM (below_step (bS HB.out) hb); clear HB; rename_i HO213 HO216 HB; (try clear hb); (try clear ho0); (try clear ho1)) | ((with_reducible refine gate_dst (N := 3) rfl ?_); (try (refine gate_guard (by rfl) ?_; dsimp only)); refine box_event ?hg (N := 3) ?hd (cs := #[.slice none 0 0]) (t := 27) ?hr ?_; (case hd => rfl); (case hg => rfl); (case hr => first | (go_simp; done) | (go_simp; rfl)); intro gb217 hg w265 hbox hb; have _ := aM (rB HO213.out hb); have _ := aM (rB HO216.out hb); have _ := aM (below_step (bS HB.out) hb); have _ := aM (hbox); have _ := aM (leG hg (bS HB.out)); have _ := aM (leG hg (bS HB.out)); clear HO213 HO216 HB; rename_i HO213 HO216 HB BK217 GW217 GE217; clear hb hbox hg; obtain ⟨Ao266, co266, eo266⟩ := Kd.R_slice HO213.out; subst eo266; obtain ⟨hcz267_0, hfz267_0⟩ := bk1 BK217.out) | ((with_reducible refine gate_store (t := 27) (p := 3) rfl ?_); refine store_event (t := 27) (p := 3) (v := ?vo_w268) (w1 := (w265.setCell ⟨gb217, 0, none⟩ (.slice Ao266 t211.length co266))) ?hg ?ho ?hn ?hr ?_; (case ho => rfl); (case hg => rfl); (case hn => rfl); (case hr => first | (go_simp; done) | (go_simp; rfl)); intro w268 hw; have n0_ : Aside0 (Kd.R (Kd.int .u8) 5 w268 w.heap.size (fun k_ => some k_ ≠ (v215 : Value).ownBlock) (.slice Ao266 t211.length co266) t211) := ⟨(by rw [hw]; exact (by (with_reducible repeat (first | apply Kd.R_alloc | apply Kd.R_drewN | apply Kd.R_drew)); exact Kd.R_mono (Kd.R_far (p := ⟨gb217, 0, none⟩) (Kd.R_types HO213.out BK217.out (by decide)) (fun _ hk => hk.2) (.slice Ao266 t211.length co266)) (fun _ hk => hk.1)))⟩; have n1_ : Aside0 (Kd.R (Kd.int .u8) 5 w268 w.heap.size (fun k_ => some k_ ≠ (.slice Ao266 t211.length co266 : Value).ownBlock) v215 t214) := ⟨(by rw [hw]; exact (by (with_reducible repeat (first | apply Kd.R_alloc | apply Kd.R_drewN | apply Kd.R_drew)); exact Kd.R_mono (Kd.R_far (p := ⟨gb217, 0, none⟩) (Kd.R_types HO216.out BK217.out (by decide)) (fun _ hk => hk.2) (.slice Ao266 t211.length co266)) (fun _ hk => hk.1)))⟩; have n2_ : Aside0 (w268.heap[gb217]? = some (.cells #[.slice Ao266 t211.length co266] 27 (0, 0))) := ⟨(by rw [hw]; exact (kP1 BK217.out))⟩; have n3_ : Aside0 (Below w.heap.size w w268) := ⟨(by rw [hw]; exact (bS HB.out))⟩; clear hw HO213 HO216 BK217 HB; have HO213 := n0_; have HO216 := n1_; have BK217 := n2_; have HB := n3_; clear n0_ n1_ n2_ n3_; obtain ⟨hcz269_0, hfz269_0⟩ := bk1 BK217.out; obtain ⟨Ao270, co270, eo270⟩ := Kd.R_slice HO216.out; subst eo270) | ((with_reducible refine gate_callee (f := 65) rfl ?_); refine gL (some 24) rfl rfl Try.func65 (by kernel_rfl) rfl #[.agg #[.slice Ao266 t211.length co266], .slice Ao270 t214.length co270] rfl ?_; (with_reducible refine (impl_RingPut.calls (fun k_ => some k_ = (.slice Ao266 t211.length co266 : Value).ownBlock) _ _ t211 (fun k_ => some k_ = (.slice Ao270 t214.length co270 : Value).ownBlock) _ _ t214 t218 t221 _ ?side1 ?side2 A5.out).mono ?_); (case side1 => exact Kd.R_V (Kd.R_tight rfl (Kd.R_types (HO213.out) BK217.out (by decide)))); (case side2 => exact Kd.R_V (Kd.R_tight rfl (Kd.R_types (HO216.out) BK217.out (by decide)))); rintro e w271 ⟨v219, rfl, ho0, hb⟩; refine ⟨_, rfl, ?_⟩; have _ := aM (Kd.R_elder' (rA HO213.out) (Kd.R_base ho0) hb); have _ := aM (Kd.R_elder' (rA HO216.out) (Kd.R_base ho0) hb); have _ := aM (Kd.R_lower (Kd.R_new' (Kd.R_new' (Kd.R_mono (ok' := fun k_ => True) ho0 (fun _ hk_ => trivial)) (Kd.R_lt (rA HO213.out))) (Kd.R_lt (rA HO216.out))) (below_size (bS HB.out))); have _ := aM (kB BK217.out hb); have _ := aM (below_step (bS HB.out) hb); clear HO213 HO216 BK217 HB; rename_i HO213 HO216 HO220 BK217 HB; (try clear hb); (try clear ho0)) | ((with_reducible refine gate_dst (N := 5) rfl ?_); (try (refine gate_guard (by rfl) ?_; dsimp only)); refine box_event ?hg (N := 5) ?hd (cs := #[.slice none 0 0]) (t := 27) ?hr ?_; (case hd => rfl); (case hg => rfl); (case hr => first | (go_simp; done) | (go_simp; rfl)); intro gb222 hg w272 hbox hb; have _ := aM (rB HO213.out hb); have _ := aM (rB HO216.out hb); have _ := aM (rB HO220.out hb); have _ := aM (kB BK217.out hb); have _ := aM (below_step (bS HB.out) hb); have _ := aM (hbox); have _ := aM (leG hg (bS HB.out)); have _ := aM (leG hg (bS HB.out)); have _ := aM (neL hg (kA BK217.out)); have _ := aM (neG hg (kA BK217.out)); clear HO213 HO216 HO220 BK217 HB; rename_i HO213 HO216 HO220 BK217 HB BK222 GW222 GE222 NB217_222 NB222_217; clear hb hbox hg; obtain ⟨Ao273, co273, eo273⟩ := Kd.R_slice HO220.out; subst eo273; have hnb274 := NB222_217.out; have hnc274 := NB217_222.out; obtain ⟨hcz275_0, hfz275_0⟩ := bk1 BK222.out; obtain ⟨hcz276_0, hfz276_0⟩ := bk1 BK217.out) | ((with_reducible refine gate_callee (f := 18) rfl ?_); refine gL (some 28) rfl rfl Try.func18 (by kernel_rfl) rfl #[.agg #[.slice Ao266 t211.length co266]] rfl ?_; (with_reducible refine (spec_RingOk.calls _ _ t211 false _ ?side1 ?side2 A6.out).mono ?_); (case side1 => exact (Kd.R_reads' (rF1 HO213.out BK222.out)).2.2); (case side2 => exact (Kd.R_reads' HO213.out).2.1); rintro e w277 ⟨rfl, hb⟩; refine ⟨_, rfl, ?_⟩; have _ := aM (Kd.R_below (rF1 HO213.out BK222.out) hb); have _ := aM (Kd.R_below (rF1 HO216.out BK222.out) hb); have _ := aM (Kd.R_below (rF1 HO220.out BK222.out) hb); have _ := aM (blk_below (kF1 BK217.out NB217_222.out) hb); have _ := aM (blk_below (kP1 BK222.out) hb); have _ := aM (below_step (bS HB.out) hb); clear HO213 HO216 HO220 BK217 BK222 HB; rename_i HO213 HO216 HO220 BK217 BK222 HB; (try clear hb)))
    go_ret
    exact ⟨by first | rfl | (simp [errW_none, errW_some] <;> rfl) | (simp [*, errW_none, errW_some] <;> rfl), bS HB.out⟩

end Go.Proofs.Ytnikdfcdddlfbaa.PFnRings
