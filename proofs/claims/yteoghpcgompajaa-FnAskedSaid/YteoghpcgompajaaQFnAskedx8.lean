/- Functions and contracts of the law FnAsked: what the Go text computes, step by step. -/
import Derived.Test.YteoghpcgompajaaM
import Derived.Test.YteoghpcgompajaaL
import Derived.Test.YteoghpcgompajaaQFnAskedx0
import Derived.Test.YteoghpcgompajaaQFnAskedx1
import Derived.Test.YteoghpcgompajaaQFnAskedx2
import Derived.Test.YteoghpcgompajaaQFnAskedx3
import Derived.Test.YteoghpcgompajaaQFnAskedx4
import Derived.Test.YteoghpcgompajaaQFnAskedx6
import Derived.Test.YteoghpcgompajaaQFnAskedx7
namespace Go.Proofs.Yteoghpcgompajaa.PFnAsked
open Go.Proofs.Yteoghpcgompajaa.K Go.Proofs.Yteoghpcgompajaa.G Go.RowKit Go.Proofs.YteoghpcgompajaaW.PrintWords Go.Proofs.YteoghpcgompajaaW.PrintLast Go.Proofs.YteoghpcgompajaaW.PrintMore
attribute [local go_sem] max2_int min2_int max_two min_two max_three min_three max_four min_four   -- for this text's walks alone
set_option linter.unusedVariables false
set_option linter.unusedSimpArgs false

/-! ### laws_FnAsked: function 6 -/
def laws_FnAsked.f (k : Nat) (l0 : List Int) : Option (Bool) := (laws_big.f l0).bind fun t425 => (if t425 = true then (some true) else ((spec_DrawPutReq.f k l0).bind fun bt426 => ((impl_PutReq.f k bt426.1 bt426.2.1 bt426.2.2.1 bt426.2.2.2.1 bt426.2.2.2.2.1 bt426.2.2.2.2.2).bind fun t437 => ((impl_Spaces.f k bt426.1 bt426.2.1 bt426.2.2.1 bt426.2.2.2.1 bt426.2.2.2.2.1 bt426.2.2.2.2.2).bind fun bt440 => ((spec_ReqOk.f k bt426.1 bt426.2.1 bt426.2.2.1 bt426.2.2.2.1 bt426.2.2.2.2.1 bt426.2.2.2.2.2).bind fun t443 => (if t443 = true then ((impl_GetReq.f k t437).bind fun bt445 => (if 0 ≤ (wrap64 ((t437.length : Int) - 1)) then (if (wrap64 ((t437.length : Int) - 1)) ≤ (t437.length : Int) then ((impl_GetReq.f k (t437.take ((wrap64 ((t437.length : Int) - 1)) : Int).toNat)).bind fun bt461 => ((some (([] : List Int) : List Int)).bind fun y473 => (if y473.length + t437.length < 140737488355328 then ((some (y473 ++ t437 : List Int)).bind fun y476 => (if y476.length < 140737488355328 then ((impl_GetReq.f k (y476 ++ [0])).bind fun bt482 => (if bt445.2.2.2.2.2.2 = 0 then ((laws_sameReq.f k bt445.1 bt445.2.1 bt445.2.2.1 bt445.2.2.2.1 bt445.2.2.2.2.1 bt445.2.2.2.2.2.1 bt426.1 bt426.2.1 bt426.2.2.1 bt426.2.2.2.1 bt426.2.2.2.2.1 bt426.2.2.2.2.2).bind fun t494 => (if t494 = true then (if bt461.2.2.2.2.2.2 = 3 then (if bt482.2.2.2.2.2.2 = 3 then ((impl_ReqOk.f k bt426.1 bt426.2.1 bt426.2.2.1 bt426.2.2.2.1 bt426.2.2.2.2.1 bt426.2.2.2.2.2).bind fun t495 => (if t495 = true then (if bt440.2.1 = bt426.2.1 then (if bt440.2.2 ≥ 1 then (if (wrap64 (bt440.2.1 + bt440.2.2)) ≤ 65536 then (if bt440.1 ≥ 0 then (if bt440.1 ≤ 3 then ((impl_Writes.f bt426.1 bt426.2.1 bt426.2.2.1 bt426.2.2.2.1 bt426.2.2.2.2.1 bt426.2.2.2.2.2).bind fun t496 => (some (t496 == (decide (bt426.1 > 4))))) else (some false)) else (some false)) else (some false)) else (some false)) else (some false)) else (some false))) else (some false)) else (some false)) else (some false))) else (some false))) else (none))) else (none)))) else (none)) else (none))) else (if (t437.length : Int) = 0 then ((impl_ReqOk.f k bt426.1 bt426.2.1 bt426.2.2.1 bt426.2.2.2.1 bt426.2.2.2.2.1 bt426.2.2.2.2.2).bind fun t444 => (if t444 = true then (some false) else (if bt440.1 = (-1) then (some (bt440.2.2 == 0)) else (some false)))) else (some false))))))))
theorem laws_FnAsked.mono : ∀ a0 k, LeO (laws_FnAsked.f k a0) (laws_FnAsked.f (k + 1) a0) := by
 intro a0 k
 unfold laws_FnAsked.f
 repeat' first
   | (with_reducible exact impl_GetReq.mono _ _)
   | (with_reducible exact impl_PutReq.mono _ _ _ _ _ _ _)
   | (with_reducible exact impl_ReqOk.mono _ _ _ _ _ _ _)
   | (with_reducible exact impl_Spaces.mono _ _ _ _ _ _ _)
   | (with_reducible exact laws_sameReq.mono _ _ _ _ _ _ _ _ _ _ _ _ _)
   | (with_reducible exact spec_DrawPutReq.mono _ _)
   | (with_reducible exact spec_ReqOk.mono _ _ _ _ _ _ _)
   | (with_reducible exact LeO.refl _)
   | (with_reducible exact LeO.none _)
   | (with_reducible refine LeO.ite ?_ ?_)
   | (with_reducible refine LeO.bind ?_ (fun _ => ?_))
   | exact impl_GetReq.mono _ _
   | exact impl_PutReq.mono _ _ _ _ _ _ _
   | exact impl_ReqOk.mono _ _ _ _ _ _ _
   | exact impl_Spaces.mono _ _ _ _ _ _ _
   | exact laws_sameReq.mono _ _ _ _ _ _ _ _ _ _ _ _ _
   | exact spec_DrawPutReq.mono _ _
   | exact spec_ReqOk.mono _ _ _ _ _ _ _
   | exact LeO.none _
   | refine LeO.ite ?_ ?_
   | refine LeO.bind ?_ (fun _ => ?_)
def laws_FnAsked.T11 : Bool × List (List Nat × List Nat) := (true, [([], []), ([0], [0]), ([1], [1]), ([2], [2]), ([2], [2]), ([3, 4, 2, 2], [2, 3, 4]), ([2, 5], [2, 5]), ([6, 5], [6]), ([7], [7]), ([8, 7], [7, 8]), ([7, 9], [7, 9]), ([10, 7], [10]), ([11], [11]), ([12, 11], [11, 12]), ([11, 13], [11, 13]), ([14, 11], [14]), ([15], [15]), ([16, 15, 15], [15, 16]), ([15, 17], [15, 17]), ([18, 17], [18]), ([19], [19]), ([19], [19]), ([21, 19], [19, 21]), ([20, 22, 19], [19, 20, 22]), ([19, 23], [19, 23]), ([24, 19], [24]), ([25], [25]), ([26, 25], [25, 26]), ([25, 27], [25, 27]), ([28, 25], [28]), ([29], [29]), ([29], [29]), ([30, 31, 29], [29, 30, 31]), ([32, 29], [29, 32]), ([29, 33], [29, 33]), ([34, 29], [34]), ([35], [35]), ([36, 35], [35, 36]), ([35, 37], [35, 37]), ([38, 35], [38]), ([39], [39]), ([40, 39], [39, 40]), ([39, 41], [39, 41]), ([42, 39], [42]), ([43], [43]), ([44, 43, 43], [43, 44]), ([43], [43]), ([46, 43], [43, 46]), ([47, 43], [43, 47]), ([45, 48, 43], [43, 45, 48]), ([43, 49], [43, 49]), ([50, 45, 0, 1, 2, 3, 4, 5, 6, 7, 8, 9, 10, 11, 12, 13, 14, 15, 16, 17, 18, 19, 20, 21, 22, 23, 24, 25, 26, 27, 28, 29, 30, 31, 32, 33, 34, 35, 36, 37, 38, 39, 40, 41, 42, 43, 44, 45, 46, 47, 48, 49, 50], [50])])
def laws_FnAsked.B11 : List Nat := [0, 1, 3, 7, 7, 31, 63, 127, 255, 511, 1023, 2047, 4095, 8191, 16383, 32767, 65535, 131071, 262143, 524287, 1048575, 1048575, 3145727, 8388607, 16777215, 33554431, 67108863, 134217727, 268435455, 536870911, 1073741823, 1073741823, 4294967295, 8589934591, 17179869183, 34359738367, 68719476735, 137438953471, 274877906943, 549755813887, 1099511627775, 2199023255551, 4398046511103, 8796093022207, 17592186044415, 35184372088831, 17592186044415, 87960930222079, 228698418577407, 562949953421311, 1125899906842623, 2251799813685247]
theorem laws_FnAsked.tab11 : rtab .any (opsOf Try.f6 11) = laws_FnAsked.T11 := by kernel_rfl
theorem laws_FnAsked.bits11 : waitsOk laws_FnAsked.T11.2 laws_FnAsked.B11 = true := by kernel_rfl
abbrev laws_FnAsked.y0 : Array Bool := #[false, false, false, false, false, false, false, false, false, false, false, false, false, false, false, false, false, false, false, false, false, false, false, false, false, false, false, false, false, false, false, false, false, false, false, false, false, false, false, false, false, false, false, false, false, false, false, false, false, false, false, false]
abbrev laws_FnAsked.y1 : Array Bool := #[true, false, false, false, false, false, false, false, false, false, false, false, false, false, false, false, false, false, false, false, false, false, false, false, false, false, false, false, false, false, false, false, false, false, false, false, false, false, false, false, false, false, false, false, false, false, false, false, false, false, false, false]
abbrev laws_FnAsked.y2 : Array Bool := #[true, true, false, false, false, false, false, false, false, false, false, false, false, false, false, false, false, false, false, false, false, false, false, false, false, false, false, false, false, false, false, false, false, false, false, false, false, false, false, false, false, false, false, false, false, false, false, false, false, false, false, false]
abbrev laws_FnAsked.y3 : Array Bool := #[true, true, true, false, false, false, false, false, false, false, false, false, false, false, false, false, false, false, false, false, false, false, false, false, false, false, false, false, false, false, false, false, false, false, false, false, false, false, false, false, false, false, false, false, false, false, false, false, false, false, false, false]
abbrev laws_FnAsked.y4 : Array Bool := #[true, true, true, true, false, false, false, false, false, false, false, false, false, false, false, false, false, false, false, false, false, false, false, false, false, false, false, false, false, false, false, false, false, false, false, false, false, false, false, false, false, false, false, false, false, false, false, false, false, false, false, false]
abbrev laws_FnAsked.y5 : Array Bool := #[true, true, true, true, true, false, false, false, false, false, false, false, false, false, false, false, false, false, false, false, false, false, false, false, false, false, false, false, false, false, false, false, false, false, false, false, false, false, false, false, false, false, false, false, false, false, false, false, false, false, false, false]
abbrev laws_FnAsked.y6 : Array Bool := #[true, true, true, true, true, true, false, false, false, false, false, false, false, false, false, false, false, false, false, false, false, false, false, false, false, false, false, false, false, false, false, false, false, false, false, false, false, false, false, false, false, false, false, false, false, false, false, false, false, false, false, false]
abbrev laws_FnAsked.y7 : Array Bool := #[true, true, true, true, true, true, true, false, false, false, false, false, false, false, false, false, false, false, false, false, false, false, false, false, false, false, false, false, false, false, false, false, false, false, false, false, false, false, false, false, false, false, false, false, false, false, false, false, false, false, false, false]
abbrev laws_FnAsked.y8 : Array Bool := #[true, true, true, true, true, true, true, true, false, false, false, false, false, false, false, false, false, false, false, false, false, false, false, false, false, false, false, false, false, false, false, false, false, false, false, false, false, false, false, false, false, false, false, false, false, false, false, false, false, false, false, false]
abbrev laws_FnAsked.y9 : Array Bool := #[true, true, true, true, true, true, true, true, true, false, false, false, false, false, false, false, false, false, false, false, false, false, false, false, false, false, false, false, false, false, false, false, false, false, false, false, false, false, false, false, false, false, false, false, false, false, false, false, false, false, false, false]
abbrev laws_FnAsked.y10 : Array Bool := #[true, true, true, true, true, true, true, true, true, true, false, false, false, false, false, false, false, false, false, false, false, false, false, false, false, false, false, false, false, false, false, false, false, false, false, false, false, false, false, false, false, false, false, false, false, false, false, false, false, false, false, false]
abbrev laws_FnAsked.y11 : Array Bool := #[true, true, true, true, true, true, true, true, true, true, true, false, false, false, false, false, false, false, false, false, false, false, false, false, false, false, false, false, false, false, false, false, false, false, false, false, false, false, false, false, false, false, false, false, false, false, false, false, false, false, false, false]
abbrev laws_FnAsked.y12 : Array Bool := #[true, true, true, true, true, true, true, true, true, true, true, true, false, false, false, false, false, false, false, false, false, false, false, false, false, false, false, false, false, false, false, false, false, false, false, false, false, false, false, false, false, false, false, false, false, false, false, false, false, false, false, false]
abbrev laws_FnAsked.y13 : Array Bool := #[true, true, true, true, true, true, true, true, true, true, true, true, true, false, false, false, false, false, false, false, false, false, false, false, false, false, false, false, false, false, false, false, false, false, false, false, false, false, false, false, false, false, false, false, false, false, false, false, false, false, false, false]
abbrev laws_FnAsked.y14 : Array Bool := #[true, true, true, true, true, true, true, true, true, true, true, true, true, true, false, false, false, false, false, false, false, false, false, false, false, false, false, false, false, false, false, false, false, false, false, false, false, false, false, false, false, false, false, false, false, false, false, false, false, false, false, false]
abbrev laws_FnAsked.y15 : Array Bool := #[true, true, true, true, true, true, true, true, true, true, true, true, true, true, true, false, false, false, false, false, false, false, false, false, false, false, false, false, false, false, false, false, false, false, false, false, false, false, false, false, false, false, false, false, false, false, false, false, false, false, false, false]
abbrev laws_FnAsked.y16 : Array Bool := #[true, true, true, true, true, true, true, true, true, true, true, true, true, true, true, true, false, false, false, false, false, false, false, false, false, false, false, false, false, false, false, false, false, false, false, false, false, false, false, false, false, false, false, false, false, false, false, false, false, false, false, false]
abbrev laws_FnAsked.y17 : Array Bool := #[true, true, true, true, true, true, true, true, true, true, true, true, true, true, true, true, true, false, false, false, false, false, false, false, false, false, false, false, false, false, false, false, false, false, false, false, false, false, false, false, false, false, false, false, false, false, false, false, false, false, false, false]
abbrev laws_FnAsked.y18 : Array Bool := #[true, true, true, true, true, true, true, true, true, true, true, true, true, true, true, true, true, true, false, false, false, false, false, false, false, false, false, false, false, false, false, false, false, false, false, false, false, false, false, false, false, false, false, false, false, false, false, false, false, false, false, false]
abbrev laws_FnAsked.y19 : Array Bool := #[true, true, true, true, true, true, true, true, true, true, true, true, true, true, true, true, true, true, true, false, false, false, false, false, false, false, false, false, false, false, false, false, false, false, false, false, false, false, false, false, false, false, false, false, false, false, false, false, false, false, false, false]
abbrev laws_FnAsked.y20 : Array Bool := #[true, true, true, true, true, true, true, true, true, true, true, true, true, true, true, true, true, true, true, true, false, false, false, false, false, false, false, false, false, false, false, false, false, false, false, false, false, false, false, false, false, false, false, false, false, false, false, false, false, false, false, false]
abbrev laws_FnAsked.y21 : Array Bool := #[true, true, true, true, true, true, true, true, true, true, true, true, true, true, true, true, true, true, true, true, true, false, false, false, false, false, false, false, false, false, false, false, false, false, false, false, false, false, false, false, false, false, false, false, false, false, false, false, false, false, false, false]
abbrev laws_FnAsked.y22 : Array Bool := #[true, true, true, true, true, true, true, true, true, true, true, true, true, true, true, true, true, true, true, true, true, true, false, false, false, false, false, false, false, false, false, false, false, false, false, false, false, false, false, false, false, false, false, false, false, false, false, false, false, false, false, false]
abbrev laws_FnAsked.y23 : Array Bool := #[true, true, true, true, true, true, true, true, true, true, true, true, true, true, true, true, true, true, true, true, true, true, true, false, false, false, false, false, false, false, false, false, false, false, false, false, false, false, false, false, false, false, false, false, false, false, false, false, false, false, false, false]
abbrev laws_FnAsked.y24 : Array Bool := #[true, true, true, true, true, true, true, true, true, true, true, true, true, true, true, true, true, true, true, true, true, true, true, true, false, false, false, false, false, false, false, false, false, false, false, false, false, false, false, false, false, false, false, false, false, false, false, false, false, false, false, false]
abbrev laws_FnAsked.y25 : Array Bool := #[true, true, true, true, true, true, true, true, true, true, true, true, true, true, true, true, true, true, true, true, true, true, true, true, true, false, false, false, false, false, false, false, false, false, false, false, false, false, false, false, false, false, false, false, false, false, false, false, false, false, false, false]
abbrev laws_FnAsked.y26 : Array Bool := #[true, true, true, true, true, true, true, true, true, true, true, true, true, true, true, true, true, true, true, true, true, true, true, true, true, true, false, false, false, false, false, false, false, false, false, false, false, false, false, false, false, false, false, false, false, false, false, false, false, false, false, false]
abbrev laws_FnAsked.y27 : Array Bool := #[true, true, true, true, true, true, true, true, true, true, true, true, true, true, true, true, true, true, true, true, true, true, true, true, true, true, true, false, false, false, false, false, false, false, false, false, false, false, false, false, false, false, false, false, false, false, false, false, false, false, false, false]
abbrev laws_FnAsked.y28 : Array Bool := #[true, true, true, true, true, true, true, true, true, true, true, true, true, true, true, true, true, true, true, true, true, true, true, true, true, true, true, true, false, false, false, false, false, false, false, false, false, false, false, false, false, false, false, false, false, false, false, false, false, false, false, false]
abbrev laws_FnAsked.y29 : Array Bool := #[true, true, true, true, true, true, true, true, true, true, true, true, true, true, true, true, true, true, true, true, true, true, true, true, true, true, true, true, true, false, false, false, false, false, false, false, false, false, false, false, false, false, false, false, false, false, false, false, false, false, false, false]
abbrev laws_FnAsked.y30 : Array Bool := #[true, true, true, true, true, true, true, true, true, true, true, true, true, true, true, true, true, true, true, true, true, true, true, true, true, true, true, true, true, true, false, false, false, false, false, false, false, false, false, false, false, false, false, false, false, false, false, false, false, false, false, false]
abbrev laws_FnAsked.y31 : Array Bool := #[true, true, true, true, true, true, true, true, true, true, true, true, true, true, true, true, true, true, true, true, true, true, true, true, true, true, true, true, true, true, true, false, false, false, false, false, false, false, false, false, false, false, false, false, false, false, false, false, false, false, false, false]
abbrev laws_FnAsked.y32 : Array Bool := #[true, true, true, true, true, true, true, true, true, true, true, true, true, true, true, true, true, true, true, true, true, true, true, true, true, true, true, true, true, true, true, true, false, false, false, false, false, false, false, false, false, false, false, false, false, false, false, false, false, false, false, false]
abbrev laws_FnAsked.y33 : Array Bool := #[true, true, true, true, true, true, true, true, true, true, true, true, true, true, true, true, true, true, true, true, true, true, true, true, true, true, true, true, true, true, true, true, true, false, false, false, false, false, false, false, false, false, false, false, false, false, false, false, false, false, false, false]
abbrev laws_FnAsked.y34 : Array Bool := #[true, true, true, true, true, true, true, true, true, true, true, true, true, true, true, true, true, true, true, true, true, true, true, true, true, true, true, true, true, true, true, true, true, true, false, false, false, false, false, false, false, false, false, false, false, false, false, false, false, false, false, false]
abbrev laws_FnAsked.y35 : Array Bool := #[true, true, true, true, true, true, true, true, true, true, true, true, true, true, true, true, true, true, true, true, true, true, true, true, true, true, true, true, true, true, true, true, true, true, true, false, false, false, false, false, false, false, false, false, false, false, false, false, false, false, false, false]
abbrev laws_FnAsked.y36 : Array Bool := #[true, true, true, true, true, true, true, true, true, true, true, true, true, true, true, true, true, true, true, true, true, true, true, true, true, true, true, true, true, true, true, true, true, true, true, true, false, false, false, false, false, false, false, false, false, false, false, false, false, false, false, false]
abbrev laws_FnAsked.y37 : Array Bool := #[true, true, true, true, true, true, true, true, true, true, true, true, true, true, true, true, true, true, true, true, true, true, true, true, true, true, true, true, true, true, true, true, true, true, true, true, true, false, false, false, false, false, false, false, false, false, false, false, false, false, false, false]
abbrev laws_FnAsked.y38 : Array Bool := #[true, true, true, true, true, true, true, true, true, true, true, true, true, true, true, true, true, true, true, true, true, true, true, true, true, true, true, true, true, true, true, true, true, true, true, true, true, true, false, false, false, false, false, false, false, false, false, false, false, false, false, false]
abbrev laws_FnAsked.y39 : Array Bool := #[true, true, true, true, true, true, true, true, true, true, true, true, true, true, true, true, true, true, true, true, true, true, true, true, true, true, true, true, true, true, true, true, true, true, true, true, true, true, true, false, false, false, false, false, false, false, false, false, false, false, false, false]
abbrev laws_FnAsked.y40 : Array Bool := #[true, true, true, true, true, true, true, true, true, true, true, true, true, true, true, true, true, true, true, true, true, true, true, true, true, true, true, true, true, true, true, true, true, true, true, true, true, true, true, true, false, false, false, false, false, false, false, false, false, false, false, false]
abbrev laws_FnAsked.y41 : Array Bool := #[true, true, true, true, true, true, true, true, true, true, true, true, true, true, true, true, true, true, true, true, true, true, true, true, true, true, true, true, true, true, true, true, true, true, true, true, true, true, true, true, true, false, false, false, false, false, false, false, false, false, false, false]
abbrev laws_FnAsked.y42 : Array Bool := #[true, true, true, true, true, true, true, true, true, true, true, true, true, true, true, true, true, true, true, true, true, true, true, true, true, true, true, true, true, true, true, true, true, true, true, true, true, true, true, true, true, true, false, false, false, false, false, false, false, false, false, false]
abbrev laws_FnAsked.y43 : Array Bool := #[true, true, true, true, true, true, true, true, true, true, true, true, true, true, true, true, true, true, true, true, true, true, true, true, true, true, true, true, true, true, true, true, true, true, true, true, true, true, true, true, true, true, true, false, false, false, false, false, false, false, false, false]
abbrev laws_FnAsked.y44 : Array Bool := #[true, true, true, true, true, true, true, true, true, true, true, true, true, true, true, true, true, true, true, true, true, true, true, true, true, true, true, true, true, true, true, true, true, true, true, true, true, true, true, true, true, true, true, true, false, false, false, false, false, false, false, false]
abbrev laws_FnAsked.y45 : Array Bool := #[true, true, true, true, true, true, true, true, true, true, true, true, true, true, true, true, true, true, true, true, true, true, true, true, true, true, true, true, true, true, true, true, true, true, true, true, true, true, true, true, true, true, true, true, true, true, true, true, true, false, false, false]
abbrev laws_FnAsked.y46 : Array Bool := #[true, true, true, true, true, true, true, true, true, true, true, true, true, true, true, true, true, true, true, true, true, true, true, true, true, true, true, true, true, true, true, true, true, true, true, true, true, true, true, true, true, true, true, true, true, true, true, true, true, true, false, false]
abbrev laws_FnAsked.y47 : Array Bool := #[true, true, true, true, true, true, true, true, true, true, true, true, true, true, true, true, true, true, true, true, true, true, true, true, true, true, true, true, true, true, true, true, true, true, true, true, true, true, true, true, true, true, true, true, true, true, true, true, true, true, true, false]
abbrev laws_FnAsked.y48 : Array Bool := #[true, true, true, true, true, true, true, true, true, true, true, true, true, true, true, true, true, true, true, true, true, true, true, true, true, true, true, true, true, true, true, true, true, true, true, true, true, true, true, true, true, true, true, true, true, true, true, true, true, true, true, true]
abbrev laws_FnAsked.y49 : Array Bool := #[true, true, true, true, true, true, true, true, true, true, true, true, true, true, true, true, true, true, true, true, true, true, true, true, true, true, true, true, true, true, true, true, true, true, true, true, true, true, true, true, true, true, true, true, true, false, false, false, false, false, false, false]
abbrev laws_FnAsked.y50 : Array Bool := #[true, true, true, true, true, true, true, true, true, true, true, true, true, true, true, true, true, true, true, true, true, true, true, true, true, true, true, true, true, true, true, true, true, true, true, true, true, true, true, true, true, true, true, true, true, true, false, false, false, false, false, false]
abbrev laws_FnAsked.y51 : Array Bool := #[true, true, true, true, true, true, true, true, true, true, true, true, true, true, true, true, true, true, true, true, true, true, true, true, true, true, true, true, true, true, true, true, true, true, true, true, true, true, true, true, true, true, true, true, true, true, true, false, false, false, false, false]
abbrev laws_FnAsked.y52 : Array Bool := #[true, true, true, true, true, true, true, true, true, true, true, true, true, true, true, true, true, true, true, true, true, true, true, true, true, true, true, true, true, true, true, true, true, true, true, true, true, true, true, true, true, true, true, true, true, true, true, true, false, false, false, false]
set_option maxHeartbeats 8000000 in
set_option maxRecDepth 100000 in
theorem laws_FnAsked.calls (k : Nat) (A0 : Option Addr) (c0 : Nat) (l0 : List Int) (r : Bool) (w : World) (hr0 : Kd.C (Kd.int .u8) w A0 l0.length l0) (hc0 : l0.length ≤ c0) (h : laws_FnAsked.f k l0 = some r) :
  Calls Try.prog 6 #[.slice A0 l0.length c0] w fun e w' => e = .returned (.bool r) ∧ Below w.heap.size w w' := by
 have hu29 := Try.underlying29
 have HR0 := aM hr0
 have HC0 := aM hc0
 clear hr0 hc0
 have HB := aM (Below.refl w.heap.size w)
 have H : ((laws_big.f l0).bind fun t425 => (if t425 = true then (some true) else ((spec_DrawPutReq.f k l0).bind fun bt426 => ((impl_PutReq.f k bt426.1 bt426.2.1 bt426.2.2.1 bt426.2.2.2.1 bt426.2.2.2.2.1 bt426.2.2.2.2.2).bind fun t437 => ((impl_Spaces.f k bt426.1 bt426.2.1 bt426.2.2.1 bt426.2.2.2.1 bt426.2.2.2.2.1 bt426.2.2.2.2.2).bind fun bt440 => ((spec_ReqOk.f k bt426.1 bt426.2.1 bt426.2.2.1 bt426.2.2.2.1 bt426.2.2.2.2.1 bt426.2.2.2.2.2).bind fun t443 => (if t443 = true then ((impl_GetReq.f k t437).bind fun bt445 => (if 0 ≤ (wrap64 ((t437.length : Int) - 1)) then (if (wrap64 ((t437.length : Int) - 1)) ≤ (t437.length : Int) then ((impl_GetReq.f k (t437.take ((wrap64 ((t437.length : Int) - 1)) : Int).toNat)).bind fun bt461 => ((some (([] : List Int) : List Int)).bind fun y473 => (if y473.length + t437.length < 140737488355328 then ((some (y473 ++ t437 : List Int)).bind fun y476 => (if y476.length < 140737488355328 then ((impl_GetReq.f k (y476 ++ [0])).bind fun bt482 => (if bt445.2.2.2.2.2.2 = 0 then ((laws_sameReq.f k bt445.1 bt445.2.1 bt445.2.2.1 bt445.2.2.2.1 bt445.2.2.2.2.1 bt445.2.2.2.2.2.1 bt426.1 bt426.2.1 bt426.2.2.1 bt426.2.2.2.1 bt426.2.2.2.2.1 bt426.2.2.2.2.2).bind fun t494 => (if t494 = true then (if bt461.2.2.2.2.2.2 = 3 then (if bt482.2.2.2.2.2.2 = 3 then ((impl_ReqOk.f k bt426.1 bt426.2.1 bt426.2.2.1 bt426.2.2.2.1 bt426.2.2.2.2.1 bt426.2.2.2.2.2).bind fun t495 => (if t495 = true then (if bt440.2.1 = bt426.2.1 then (if bt440.2.2 ≥ 1 then (if (wrap64 (bt440.2.1 + bt440.2.2)) ≤ 65536 then (if bt440.1 ≥ 0 then (if bt440.1 ≤ 3 then ((impl_Writes.f bt426.1 bt426.2.1 bt426.2.2.1 bt426.2.2.2.1 bt426.2.2.2.2.1 bt426.2.2.2.2.2).bind fun t496 => (some (t496 == (decide (bt426.1 > 4))))) else (some false)) else (some false)) else (some false)) else (some false)) else (some false)) else (some false))) else (some false)) else (some false)) else (some false))) else (some false))) else (none))) else (none)))) else (none)) else (none))) else (if (t437.length : Int) = 0 then ((impl_ReqOk.f k bt426.1 bt426.2.1 bt426.2.2.1 bt426.2.2.2.1 bt426.2.2.2.2.1 bt426.2.2.2.2.2).bind fun t444 => (if t444 = true then (some false) else (if bt440.1 = (-1) then (some (bt440.2.2 == 0)) else (some false)))) else (some false))))))))) = some r := h
 clear h
 replace H := Option.bind_eq_some_iff.mp H
 obtain ⟨t425, A20, H⟩ := H
 (try dsimp only at H)
 have A2 := aM A20
 clear A20
 by_cases c3 : t425 = true
 ·subst c3
  rw [if_pos rfl] at H
  (try dsimp only at H)
  obtain rfl := Option.some.inj H
  go_enter Try.func6, Try.ntmps6
  go_wp2_with (first | ((with_reducible refine gate_callee (f := 22) rfl ?_); refine gL (some 15) rfl rfl Try.func22 (by kernel_rfl) rfl #[.slice A0 l0.length c0] rfl ?_; (with_reducible refine (laws_big.calls _ _ l0 true _ ?side1 ?side2 A2.out).mono ?_); (case side1 => repeat (first | exact HR0.out | (with_reducible refine Kd.C_alloc ?_ _) | (with_reducible refine Kd.C_drewN ?_ _) | (with_reducible refine Kd.C_drew ?_))); (case side2 => exact HC0.out); rintro e w' ⟨rfl, ⟨nd, rfl⟩⟩; refine ⟨_, rfl, ?_⟩))
  go_ret
  exact ⟨by first | rfl | (simp [errW_none, errW_some] <;> rfl) | (simp [*, errW_none, errW_some] <;> rfl), bS HB.out⟩
 ·replace c3 := Bool.eq_false_iff.mpr c3
  subst c3
  rw [if_neg (show ¬ (false = true) by decide)] at H
  (try dsimp only at H)
  replace H := Option.bind_eq_some_iff.mp H
  obtain ⟨⟨t426, t427, t428, t429, t432, t435⟩, A40, H⟩ := H
  (try dsimp only at H)
  have A4 := aM A40
  clear A40
  replace H := Option.bind_eq_some_iff.mp H
  obtain ⟨t437, A50, H⟩ := H
  (try dsimp only at H)
  have A5 := aM A50
  clear A50
  replace H := Option.bind_eq_some_iff.mp H
  obtain ⟨⟨t440, t441, t442⟩, A60, H⟩ := H
  (try dsimp only at H)
  have A6 := aM A60
  clear A60
  replace H := Option.bind_eq_some_iff.mp H
  obtain ⟨t443, A70, H⟩ := H
  (try dsimp only at H)
  have A7 := aM A70
  clear A70
  by_cases c8 : t443 = true
  rotate_left
  ·replace c8 := Bool.eq_false_iff.mpr c8
   subst c8
   rw [if_neg (show ¬ (false = true) by decide)] at H
   (try dsimp only at H)
   by_cases c499 : (t437.length : Int) = 0
   rotate_left
   ·rw [if_neg c499] at H
    have c499b0 : ((t437.length : Int) == 0) = false := beq_eq_false_iff_ne.mpr c499
    have c499b1 : ((t437.length : Int) != 0) = true := bne_iff_ne.mpr c499
    have c499b2 : ¬ (t437 = []) := fun h_ => c499 (by rw [h_]; rfl)
    obtain rfl := Option.some.inj H
    go_enter Try.func6, Try.ntmps6
    go_wp2_with (first | ((with_reducible refine gate_callee (f := 22) rfl ?_); refine gL (some 15) rfl rfl Try.func22 (by kernel_rfl) rfl #[.slice A0 l0.length c0] rfl ?_; (with_reducible refine (laws_big.calls _ _ l0 false _ ?side1 ?side2 A2.out).mono ?_); (case side1 => repeat (first | exact HR0.out | (with_reducible refine Kd.C_alloc ?_ _) | (with_reducible refine Kd.C_drewN ?_ _) | (with_reducible refine Kd.C_drew ?_))); (case side2 => exact HC0.out); rintro e w' ⟨rfl, ⟨nd, rfl⟩⟩; refine ⟨_, rfl, ?_⟩) | ((with_reducible refine gate_callee (f := 23) rfl ?_); refine gL (some 17) rfl rfl Try.func23 (by kernel_rfl) rfl #[.slice A0 l0.length c0] rfl ?_; (with_reducible refine (spec_DrawPutReq.calls k _ _ l0 t426 t427 t428 t429 t432 t435 _ ?side1 ?side2 A4.out).mono ?_); (case side1 => repeat (first | exact HR0.out | (with_reducible refine Kd.C_alloc ?_ _) | (with_reducible refine Kd.C_drewN ?_ _) | (with_reducible refine Kd.C_drew ?_))); (case side2 => exact HC0.out); rintro e w542 ⟨v430, v433, rfl, ho0, ho1, hb⟩; refine ⟨_, rfl, ?_⟩; have _ := aM (Kd.R_lower ho0 (below_size (bS HB.out))); have _ := aM (Kd.R_lower ho1 (below_size (bS HB.out))); have _ := aM (below_step (bS HB.out) hb); clear HB; rename_i HO431 HO434 HB; (try clear hb); (try clear ho0); (try clear ho1)) | ((with_reducible refine gate_dst (N := 3) rfl ?_); refine box_event ?hg (N := 3) ?hd (cs := #[.int .i64 0, .int .i64 0, .int .i64 0, .slice none 0 0, .slice none 0 0, .int .i64 0]) (t := 29) ?hr ?_; (case hd => rfl); (case hg => rfl); (case hr => first | (go_simp; done) | (go_simp; rfl)); intro gb436 hg w543 hbox hb; have _ := aM (rB HO431.out hb); have _ := aM (rB HO434.out hb); have _ := aM (below_step (bS HB.out) hb); have _ := aM (hbox); have _ := aM (leG hg (bS HB.out)); have _ := aM (leG hg (bS HB.out)); clear HO431 HO434 HB; rename_i HO431 HO434 HB BK436 GW436 GE436; clear hb hbox hg; obtain ⟨hcz544_0, hfz544_0, hcz544_1, hfz544_1, hcz544_2, hfz544_2, hcz544_3, hfz544_3, hcz544_4, hfz544_4, hcz544_5, hfz544_5⟩ := bk6 BK436.out; obtain ⟨Ao545, co545, eo545⟩ := Kd.R_slice HO431.out; subst eo545; obtain ⟨Ao546, co546, eo546⟩ := Kd.R_slice HO434.out; subst eo546) | ((with_reducible refine gate_callee (f := 13) rfl ?_); refine gL (some 19) rfl rfl Try.func13 (by kernel_rfl) rfl #[.agg #[.int .i64 t426, .int .i64 t427, .int .i64 t428, .slice Ao545 t429.length co545, .slice Ao546 t432.length co546, .int .i64 t435]] rfl ?_; (with_reducible refine (impl_PutReq.calls k t426 t427 t428 _ _ t429 _ _ t432 t435 t437 _ ?side1 ?side2 ?side3 ?side4 A5.out).mono ?_); (case side1 => exact (Kd.R_reads' (rF6 HO431.out BK436.out)).2.2); (case side2 => exact (Kd.R_reads' HO431.out).2.1); (case side3 => exact (Kd.R_reads' (rF6 HO434.out BK436.out)).2.2); (case side4 => exact (Kd.R_reads' HO434.out).2.1); rintro e w547 ⟨v438, rfl, ho0, hb⟩; refine ⟨_, rfl, ?_⟩; have _ := aM (Kd.R_below (rF6 HO431.out BK436.out) hb); have _ := aM (Kd.R_below (rF6 HO434.out BK436.out) hb); have _ := aM (Kd.R_lower ho0 (below_size (bS HB.out))); have _ := aM (blk_below (kP6 BK436.out) hb); have _ := aM (below_step (bS HB.out) hb); clear HO431 HO434 BK436 HB; rename_i HO431 HO434 HO439 BK436 HB; (try clear hb); (try clear ho0); obtain ⟨hcz548_0, hfz548_0, hcz548_1, hfz548_1, hcz548_2, hfz548_2, hcz548_3, hfz548_3, hcz548_4, hfz548_4, hcz548_5, hfz548_5⟩ := bk6 BK436.out) | ((with_reducible refine gate_callee (f := 10) rfl ?_); refine gL (some 22) rfl rfl Try.func10 (by kernel_rfl) rfl #[.agg #[.int .i64 t426, .int .i64 t427, .int .i64 t428, .slice Ao545 t429.length co545, .slice Ao546 t432.length co546, .int .i64 t435]] rfl ?_; (with_reducible refine (impl_Spaces.calls k t426 t427 t428 _ _ t429 _ _ t432 t435 t440 t441 t442 _ ?side1 ?side2 ?side3 ?side4 A6.out).mono ?_); (case side1 => exact cR HO431.out); (case side2 => exact (Kd.R_reads' HO431.out).2.1); (case side3 => exact cR HO434.out); (case side4 => exact (Kd.R_reads' HO434.out).2.1); rintro e w549 ⟨rfl, hb⟩; refine ⟨_, rfl, ?_⟩; have _ := aM (rB HO431.out hb); have _ := aM (rB HO434.out hb); have _ := aM (rB HO439.out hb); have _ := aM (kB BK436.out hb); have _ := aM (below_step (bS HB.out) hb); clear HO431 HO434 HO439 BK436 HB; rename_i HO431 HO434 HO439 BK436 HB; (try clear hb); obtain ⟨hcz550_0, hfz550_0, hcz550_1, hfz550_1, hcz550_2, hfz550_2, hcz550_3, hfz550_3, hcz550_4, hfz550_4, hcz550_5, hfz550_5⟩ := bk6 BK436.out) | ((with_reducible refine gate_callee (f := 24) rfl ?_); refine gL (some 27) rfl rfl Try.func24 (by kernel_rfl) rfl #[.agg #[.int .i64 t426, .int .i64 t427, .int .i64 t428, .slice Ao545 t429.length co545, .slice Ao546 t432.length co546, .int .i64 t435]] rfl ?_; (with_reducible refine (spec_ReqOk.calls k t426 t427 t428 _ _ t429 _ _ t432 t435 false _ ?side1 ?side2 ?side3 ?side4 A7.out).mono ?_); (case side1 => exact cR HO431.out); (case side2 => exact (Kd.R_reads' HO431.out).2.1); (case side3 => exact cR HO434.out); (case side4 => exact (Kd.R_reads' HO434.out).2.1); rintro e w551 ⟨rfl, hb⟩; refine ⟨_, rfl, ?_⟩; have _ := aM (rB HO431.out hb); have _ := aM (rB HO434.out hb); have _ := aM (rB HO439.out hb); have _ := aM (kB BK436.out hb); have _ := aM (below_step (bS HB.out) hb); clear HO431 HO434 HO439 BK436 HB; rename_i HO431 HO434 HO439 BK436 HB; (try clear hb); obtain ⟨Ao552, co552, eo552⟩ := Kd.R_slice HO439.out; subst eo552))
    go_ret
    exact ⟨by first | rfl | (simp [errW_none, errW_some] <;> rfl) | (simp [*, errW_none, errW_some] <;> rfl), bS HB.out⟩

   rw [if_pos c499] at H
   have c499b0 : ((t437.length : Int) == 0) = true := beq_iff_eq.mpr c499
   have c499b1 : ((t437.length : Int) != 0) = false := bne_eq_false_iff_eq.mpr c499
   clear c499
   replace H := Option.bind_eq_some_iff.mp H
   obtain ⟨t444, A5000, H⟩ := H
   (try dsimp only at H)
   have A500 := aM A5000
   clear A5000
   by_cases c501 : t444 = true
   ·subst c501
    rw [if_pos rfl] at H
    (try dsimp only at H)
    obtain rfl := Option.some.inj H
    go_enter Try.func6, Try.ntmps6
    go_wp2_with (first | ((with_reducible refine gate_callee (f := 22) rfl ?_); refine gL (some 15) rfl rfl Try.func22 (by kernel_rfl) rfl #[.slice A0 l0.length c0] rfl ?_; (with_reducible refine (laws_big.calls _ _ l0 false _ ?side1 ?side2 A2.out).mono ?_); (case side1 => repeat (first | exact HR0.out | (with_reducible refine Kd.C_alloc ?_ _) | (with_reducible refine Kd.C_drewN ?_ _) | (with_reducible refine Kd.C_drew ?_))); (case side2 => exact HC0.out); rintro e w' ⟨rfl, ⟨nd, rfl⟩⟩; refine ⟨_, rfl, ?_⟩) | ((with_reducible refine gate_callee (f := 23) rfl ?_); refine gL (some 17) rfl rfl Try.func23 (by kernel_rfl) rfl #[.slice A0 l0.length c0] rfl ?_; (with_reducible refine (spec_DrawPutReq.calls k _ _ l0 t426 t427 t428 t429 t432 t435 _ ?side1 ?side2 A4.out).mono ?_); (case side1 => repeat (first | exact HR0.out | (with_reducible refine Kd.C_alloc ?_ _) | (with_reducible refine Kd.C_drewN ?_ _) | (with_reducible refine Kd.C_drew ?_))); (case side2 => exact HC0.out); rintro e w502 ⟨v430, v433, rfl, ho0, ho1, hb⟩; refine ⟨_, rfl, ?_⟩; have _ := aM (Kd.R_lower ho0 (below_size (bS HB.out))); have _ := aM (Kd.R_lower ho1 (below_size (bS HB.out))); have _ := aM (below_step (bS HB.out) hb); clear HB; rename_i HO431 HO434 HB; (try clear hb); (try clear ho0); (try clear ho1)) | ((with_reducible refine gate_dst (N := 3) rfl ?_); refine box_event ?hg (N := 3) ?hd (cs := #[.int .i64 0, .int .i64 0, .int .i64 0, .slice none 0 0, .slice none 0 0, .int .i64 0]) (t := 29) ?hr ?_; (case hd => rfl); (case hg => rfl); (case hr => first | (go_simp; done) | (go_simp; rfl)); intro gb436 hg w503 hbox hb; have _ := aM (rB HO431.out hb); have _ := aM (rB HO434.out hb); have _ := aM (below_step (bS HB.out) hb); have _ := aM (hbox); have _ := aM (leG hg (bS HB.out)); have _ := aM (leG hg (bS HB.out)); clear HO431 HO434 HB; rename_i HO431 HO434 HB BK436 GW436 GE436; clear hb hbox hg; obtain ⟨hcz504_0, hfz504_0, hcz504_1, hfz504_1, hcz504_2, hfz504_2, hcz504_3, hfz504_3, hcz504_4, hfz504_4, hcz504_5, hfz504_5⟩ := bk6 BK436.out; obtain ⟨Ao505, co505, eo505⟩ := Kd.R_slice HO431.out; subst eo505; obtain ⟨Ao506, co506, eo506⟩ := Kd.R_slice HO434.out; subst eo506) | ((with_reducible refine gate_callee (f := 13) rfl ?_); refine gL (some 19) rfl rfl Try.func13 (by kernel_rfl) rfl #[.agg #[.int .i64 t426, .int .i64 t427, .int .i64 t428, .slice Ao505 t429.length co505, .slice Ao506 t432.length co506, .int .i64 t435]] rfl ?_; (with_reducible refine (impl_PutReq.calls k t426 t427 t428 _ _ t429 _ _ t432 t435 t437 _ ?side1 ?side2 ?side3 ?side4 A5.out).mono ?_); (case side1 => exact (Kd.R_reads' (rF6 HO431.out BK436.out)).2.2); (case side2 => exact (Kd.R_reads' HO431.out).2.1); (case side3 => exact (Kd.R_reads' (rF6 HO434.out BK436.out)).2.2); (case side4 => exact (Kd.R_reads' HO434.out).2.1); rintro e w507 ⟨v438, rfl, ho0, hb⟩; refine ⟨_, rfl, ?_⟩; have _ := aM (Kd.R_below (rF6 HO431.out BK436.out) hb); have _ := aM (Kd.R_below (rF6 HO434.out BK436.out) hb); have _ := aM (Kd.R_lower ho0 (below_size (bS HB.out))); have _ := aM (blk_below (kP6 BK436.out) hb); have _ := aM (below_step (bS HB.out) hb); clear HO431 HO434 BK436 HB; rename_i HO431 HO434 HO439 BK436 HB; (try clear hb); (try clear ho0); obtain ⟨hcz508_0, hfz508_0, hcz508_1, hfz508_1, hcz508_2, hfz508_2, hcz508_3, hfz508_3, hcz508_4, hfz508_4, hcz508_5, hfz508_5⟩ := bk6 BK436.out) | ((with_reducible refine gate_callee (f := 10) rfl ?_); refine gL (some 22) rfl rfl Try.func10 (by kernel_rfl) rfl #[.agg #[.int .i64 t426, .int .i64 t427, .int .i64 t428, .slice Ao505 t429.length co505, .slice Ao506 t432.length co506, .int .i64 t435]] rfl ?_; (with_reducible refine (impl_Spaces.calls k t426 t427 t428 _ _ t429 _ _ t432 t435 t440 t441 t442 _ ?side1 ?side2 ?side3 ?side4 A6.out).mono ?_); (case side1 => exact cR HO431.out); (case side2 => exact (Kd.R_reads' HO431.out).2.1); (case side3 => exact cR HO434.out); (case side4 => exact (Kd.R_reads' HO434.out).2.1); rintro e w509 ⟨rfl, hb⟩; refine ⟨_, rfl, ?_⟩; have _ := aM (rB HO431.out hb); have _ := aM (rB HO434.out hb); have _ := aM (rB HO439.out hb); have _ := aM (kB BK436.out hb); have _ := aM (below_step (bS HB.out) hb); clear HO431 HO434 HO439 BK436 HB; rename_i HO431 HO434 HO439 BK436 HB; (try clear hb); obtain ⟨hcz510_0, hfz510_0, hcz510_1, hfz510_1, hcz510_2, hfz510_2, hcz510_3, hfz510_3, hcz510_4, hfz510_4, hcz510_5, hfz510_5⟩ := bk6 BK436.out) | ((with_reducible refine gate_callee (f := 24) rfl ?_); refine gL (some 27) rfl rfl Try.func24 (by kernel_rfl) rfl #[.agg #[.int .i64 t426, .int .i64 t427, .int .i64 t428, .slice Ao505 t429.length co505, .slice Ao506 t432.length co506, .int .i64 t435]] rfl ?_; (with_reducible refine (spec_ReqOk.calls k t426 t427 t428 _ _ t429 _ _ t432 t435 false _ ?side1 ?side2 ?side3 ?side4 A7.out).mono ?_); (case side1 => exact cR HO431.out); (case side2 => exact (Kd.R_reads' HO431.out).2.1); (case side3 => exact cR HO434.out); (case side4 => exact (Kd.R_reads' HO434.out).2.1); rintro e w511 ⟨rfl, hb⟩; refine ⟨_, rfl, ?_⟩; have _ := aM (rB HO431.out hb); have _ := aM (rB HO434.out hb); have _ := aM (rB HO439.out hb); have _ := aM (kB BK436.out hb); have _ := aM (below_step (bS HB.out) hb); clear HO431 HO434 HO439 BK436 HB; rename_i HO431 HO434 HO439 BK436 HB; (try clear hb); obtain ⟨Ao512, co512, eo512⟩ := Kd.R_slice HO439.out; subst eo512; obtain ⟨hcz513_0, hfz513_0, hcz513_1, hfz513_1, hcz513_2, hfz513_2, hcz513_3, hfz513_3, hcz513_4, hfz513_4, hcz513_5, hfz513_5⟩ := bk6 BK436.out) | (go_at_call 25; (with_reducible refine (impl_ReqOk.calls k t426 t427 t428 _ _ t429 _ _ t432 t435 true _ ?side1 ?side2 ?side3 ?side4 A500.out).mono ?_); (case side1 => exact cR HO431.out); (case side2 => exact (Kd.R_reads' HO431.out).2.1); (case side3 => exact cR HO434.out); (case side4 => exact (Kd.R_reads' HO434.out).2.1); rintro e w514 ⟨rfl, hb⟩; have _ := aM (rB HO431.out hb); have _ := aM (rB HO434.out hb); have _ := aM (rB HO439.out hb); have _ := aM (kB BK436.out hb); have _ := aM (below_step (bS HB.out) hb); clear HO431 HO434 HO439 BK436 HB; rename_i HO431 HO434 HO439 BK436 HB; (try clear hb)))
    go_ret
    exact ⟨by first | rfl | (simp [errW_none, errW_some] <;> rfl) | (simp [*, errW_none, errW_some] <;> rfl), bS HB.out⟩
   ·replace c501 := Bool.eq_false_iff.mpr c501
    subst c501
    rw [if_neg (show ¬ (false = true) by decide)] at H
    (try dsimp only at H)
    by_cases c515 : t440 = (-1)
    rotate_left
    ·rw [if_neg c515] at H
     have c515b0 : (t440 == (-1)) = false := beq_eq_false_iff_ne.mpr c515
     have c515b1 : (t440 != (-1)) = true := bne_iff_ne.mpr c515
     obtain rfl := Option.some.inj H
     go_enter Try.func6, Try.ntmps6
     go_wp2_with (first | ((with_reducible refine gate_callee (f := 22) rfl ?_); refine gL (some 15) rfl rfl Try.func22 (by kernel_rfl) rfl #[.slice A0 l0.length c0] rfl ?_; (with_reducible refine (laws_big.calls _ _ l0 false _ ?side1 ?side2 A2.out).mono ?_); (case side1 => repeat (first | exact HR0.out | (with_reducible refine Kd.C_alloc ?_ _) | (with_reducible refine Kd.C_drewN ?_ _) | (with_reducible refine Kd.C_drew ?_))); (case side2 => exact HC0.out); rintro e w' ⟨rfl, ⟨nd, rfl⟩⟩; refine ⟨_, rfl, ?_⟩) | ((with_reducible refine gate_callee (f := 23) rfl ?_); refine gL (some 17) rfl rfl Try.func23 (by kernel_rfl) rfl #[.slice A0 l0.length c0] rfl ?_; (with_reducible refine (spec_DrawPutReq.calls k _ _ l0 t426 t427 t428 t429 t432 t435 _ ?side1 ?side2 A4.out).mono ?_); (case side1 => repeat (first | exact HR0.out | (with_reducible refine Kd.C_alloc ?_ _) | (with_reducible refine Kd.C_drewN ?_ _) | (with_reducible refine Kd.C_drew ?_))); (case side2 => exact HC0.out); rintro e w516 ⟨v430, v433, rfl, ho0, ho1, hb⟩; refine ⟨_, rfl, ?_⟩; have _ := aM (Kd.R_lower ho0 (below_size (bS HB.out))); have _ := aM (Kd.R_lower ho1 (below_size (bS HB.out))); have _ := aM (below_step (bS HB.out) hb); clear HB; rename_i HO431 HO434 HB; (try clear hb); (try clear ho0); (try clear ho1)) | ((with_reducible refine gate_dst (N := 3) rfl ?_); refine box_event ?hg (N := 3) ?hd (cs := #[.int .i64 0, .int .i64 0, .int .i64 0, .slice none 0 0, .slice none 0 0, .int .i64 0]) (t := 29) ?hr ?_; (case hd => rfl); (case hg => rfl); (case hr => first | (go_simp; done) | (go_simp; rfl)); intro gb436 hg w517 hbox hb; have _ := aM (rB HO431.out hb); have _ := aM (rB HO434.out hb); have _ := aM (below_step (bS HB.out) hb); have _ := aM (hbox); have _ := aM (leG hg (bS HB.out)); have _ := aM (leG hg (bS HB.out)); clear HO431 HO434 HB; rename_i HO431 HO434 HB BK436 GW436 GE436; clear hb hbox hg; obtain ⟨hcz518_0, hfz518_0, hcz518_1, hfz518_1, hcz518_2, hfz518_2, hcz518_3, hfz518_3, hcz518_4, hfz518_4, hcz518_5, hfz518_5⟩ := bk6 BK436.out; obtain ⟨Ao519, co519, eo519⟩ := Kd.R_slice HO431.out; subst eo519; obtain ⟨Ao520, co520, eo520⟩ := Kd.R_slice HO434.out; subst eo520) | ((with_reducible refine gate_callee (f := 13) rfl ?_); refine gL (some 19) rfl rfl Try.func13 (by kernel_rfl) rfl #[.agg #[.int .i64 t426, .int .i64 t427, .int .i64 t428, .slice Ao519 t429.length co519, .slice Ao520 t432.length co520, .int .i64 t435]] rfl ?_; (with_reducible refine (impl_PutReq.calls k t426 t427 t428 _ _ t429 _ _ t432 t435 t437 _ ?side1 ?side2 ?side3 ?side4 A5.out).mono ?_); (case side1 => exact (Kd.R_reads' (rF6 HO431.out BK436.out)).2.2); (case side2 => exact (Kd.R_reads' HO431.out).2.1); (case side3 => exact (Kd.R_reads' (rF6 HO434.out BK436.out)).2.2); (case side4 => exact (Kd.R_reads' HO434.out).2.1); rintro e w521 ⟨v438, rfl, ho0, hb⟩; refine ⟨_, rfl, ?_⟩; have _ := aM (Kd.R_below (rF6 HO431.out BK436.out) hb); have _ := aM (Kd.R_below (rF6 HO434.out BK436.out) hb); have _ := aM (Kd.R_lower ho0 (below_size (bS HB.out))); have _ := aM (blk_below (kP6 BK436.out) hb); have _ := aM (below_step (bS HB.out) hb); clear HO431 HO434 BK436 HB; rename_i HO431 HO434 HO439 BK436 HB; (try clear hb); (try clear ho0); obtain ⟨hcz522_0, hfz522_0, hcz522_1, hfz522_1, hcz522_2, hfz522_2, hcz522_3, hfz522_3, hcz522_4, hfz522_4, hcz522_5, hfz522_5⟩ := bk6 BK436.out) | ((with_reducible refine gate_callee (f := 10) rfl ?_); refine gL (some 22) rfl rfl Try.func10 (by kernel_rfl) rfl #[.agg #[.int .i64 t426, .int .i64 t427, .int .i64 t428, .slice Ao519 t429.length co519, .slice Ao520 t432.length co520, .int .i64 t435]] rfl ?_; (with_reducible refine (impl_Spaces.calls k t426 t427 t428 _ _ t429 _ _ t432 t435 t440 t441 t442 _ ?side1 ?side2 ?side3 ?side4 A6.out).mono ?_); (case side1 => exact cR HO431.out); (case side2 => exact (Kd.R_reads' HO431.out).2.1); (case side3 => exact cR HO434.out); (case side4 => exact (Kd.R_reads' HO434.out).2.1); rintro e w523 ⟨rfl, hb⟩; refine ⟨_, rfl, ?_⟩; have _ := aM (rB HO431.out hb); have _ := aM (rB HO434.out hb); have _ := aM (rB HO439.out hb); have _ := aM (kB BK436.out hb); have _ := aM (below_step (bS HB.out) hb); clear HO431 HO434 HO439 BK436 HB; rename_i HO431 HO434 HO439 BK436 HB; (try clear hb); obtain ⟨hcz524_0, hfz524_0, hcz524_1, hfz524_1, hcz524_2, hfz524_2, hcz524_3, hfz524_3, hcz524_4, hfz524_4, hcz524_5, hfz524_5⟩ := bk6 BK436.out) | ((with_reducible refine gate_callee (f := 24) rfl ?_); refine gL (some 27) rfl rfl Try.func24 (by kernel_rfl) rfl #[.agg #[.int .i64 t426, .int .i64 t427, .int .i64 t428, .slice Ao519 t429.length co519, .slice Ao520 t432.length co520, .int .i64 t435]] rfl ?_; (with_reducible refine (spec_ReqOk.calls k t426 t427 t428 _ _ t429 _ _ t432 t435 false _ ?side1 ?side2 ?side3 ?side4 A7.out).mono ?_); (case side1 => exact cR HO431.out); (case side2 => exact (Kd.R_reads' HO431.out).2.1); (case side3 => exact cR HO434.out); (case side4 => exact (Kd.R_reads' HO434.out).2.1); rintro e w525 ⟨rfl, hb⟩; refine ⟨_, rfl, ?_⟩; have _ := aM (rB HO431.out hb); have _ := aM (rB HO434.out hb); have _ := aM (rB HO439.out hb); have _ := aM (kB BK436.out hb); have _ := aM (below_step (bS HB.out) hb); clear HO431 HO434 HO439 BK436 HB; rename_i HO431 HO434 HO439 BK436 HB; (try clear hb); obtain ⟨Ao526, co526, eo526⟩ := Kd.R_slice HO439.out; subst eo526; obtain ⟨hcz527_0, hfz527_0, hcz527_1, hfz527_1, hcz527_2, hfz527_2, hcz527_3, hfz527_3, hcz527_4, hfz527_4, hcz527_5, hfz527_5⟩ := bk6 BK436.out) | (go_at_call 25; (with_reducible refine (impl_ReqOk.calls k t426 t427 t428 _ _ t429 _ _ t432 t435 false _ ?side1 ?side2 ?side3 ?side4 A500.out).mono ?_); (case side1 => exact cR HO431.out); (case side2 => exact (Kd.R_reads' HO431.out).2.1); (case side3 => exact cR HO434.out); (case side4 => exact (Kd.R_reads' HO434.out).2.1); rintro e w528 ⟨rfl, hb⟩; have _ := aM (rB HO431.out hb); have _ := aM (rB HO434.out hb); have _ := aM (rB HO439.out hb); have _ := aM (kB BK436.out hb); have _ := aM (below_step (bS HB.out) hb); clear HO431 HO434 HO439 BK436 HB; rename_i HO431 HO434 HO439 BK436 HB; (try clear hb)))
     go_ret
     exact ⟨by first | rfl | (simp [errW_none, errW_some] <;> rfl) | (simp [*, errW_none, errW_some] <;> rfl), bS HB.out⟩
    rw [if_pos c515] at H
    have c515b0 : (t440 == (-1)) = true := beq_iff_eq.mpr c515
    have c515b1 : (t440 != (-1)) = false := bne_eq_false_iff_eq.mpr c515
    clear c515
    obtain rfl := Option.some.inj H
    go_enter Try.func6, Try.ntmps6
    go_wp2_with (first | ((with_reducible refine gate_callee (f := 22) rfl ?_); refine gL (some 15) rfl rfl Try.func22 (by kernel_rfl) rfl #[.slice A0 l0.length c0] rfl ?_; (with_reducible refine (laws_big.calls _ _ l0 false _ ?side1 ?side2 A2.out).mono ?_); (case side1 => repeat (first | exact HR0.out | (with_reducible refine Kd.C_alloc ?_ _) | (with_reducible refine Kd.C_drewN ?_ _) | (with_reducible refine Kd.C_drew ?_))); (case side2 => exact HC0.out); rintro e w' ⟨rfl, ⟨nd, rfl⟩⟩; refine ⟨_, rfl, ?_⟩) | ((with_reducible refine gate_callee (f := 23) rfl ?_); refine gL (some 17) rfl rfl Try.func23 (by kernel_rfl) rfl #[.slice A0 l0.length c0] rfl ?_; (with_reducible refine (spec_DrawPutReq.calls k _ _ l0 t426 t427 t428 t429 t432 t435 _ ?side1 ?side2 A4.out).mono ?_); (case side1 => repeat (first | exact HR0.out | (with_reducible refine Kd.C_alloc ?_ _) | (with_reducible refine Kd.C_drewN ?_ _) | (with_reducible refine Kd.C_drew ?_))); (case side2 => exact HC0.out); rintro e w516 ⟨v430, v433, rfl, ho0, ho1, hb⟩; refine ⟨_, rfl, ?_⟩; have _ := aM (Kd.R_lower ho0 (below_size (bS HB.out))); have _ := aM (Kd.R_lower ho1 (below_size (bS HB.out))); have _ := aM (below_step (bS HB.out) hb); clear HB; rename_i HO431 HO434 HB; (try clear hb); (try clear ho0); (try clear ho1)) | ((with_reducible refine gate_dst (N := 3) rfl ?_); refine box_event ?hg (N := 3) ?hd (cs := #[.int .i64 0, .int .i64 0, .int .i64 0, .slice none 0 0, .slice none 0 0, .int .i64 0]) (t := 29) ?hr ?_; (case hd => rfl); (case hg => rfl); (case hr => first | (go_simp; done) | (go_simp; rfl)); intro gb436 hg w517 hbox hb; have _ := aM (rB HO431.out hb); have _ := aM (rB HO434.out hb); have _ := aM (below_step (bS HB.out) hb); have _ := aM (hbox); have _ := aM (leG hg (bS HB.out)); have _ := aM (leG hg (bS HB.out)); clear HO431 HO434 HB; rename_i HO431 HO434 HB BK436 GW436 GE436; clear hb hbox hg; obtain ⟨hcz518_0, hfz518_0, hcz518_1, hfz518_1, hcz518_2, hfz518_2, hcz518_3, hfz518_3, hcz518_4, hfz518_4, hcz518_5, hfz518_5⟩ := bk6 BK436.out; obtain ⟨Ao519, co519, eo519⟩ := Kd.R_slice HO431.out; subst eo519; obtain ⟨Ao520, co520, eo520⟩ := Kd.R_slice HO434.out; subst eo520) | ((with_reducible refine gate_callee (f := 13) rfl ?_); refine gL (some 19) rfl rfl Try.func13 (by kernel_rfl) rfl #[.agg #[.int .i64 t426, .int .i64 t427, .int .i64 t428, .slice Ao519 t429.length co519, .slice Ao520 t432.length co520, .int .i64 t435]] rfl ?_; (with_reducible refine (impl_PutReq.calls k t426 t427 t428 _ _ t429 _ _ t432 t435 t437 _ ?side1 ?side2 ?side3 ?side4 A5.out).mono ?_); (case side1 => exact (Kd.R_reads' (rF6 HO431.out BK436.out)).2.2); (case side2 => exact (Kd.R_reads' HO431.out).2.1); (case side3 => exact (Kd.R_reads' (rF6 HO434.out BK436.out)).2.2); (case side4 => exact (Kd.R_reads' HO434.out).2.1); rintro e w521 ⟨v438, rfl, ho0, hb⟩; refine ⟨_, rfl, ?_⟩; have _ := aM (Kd.R_below (rF6 HO431.out BK436.out) hb); have _ := aM (Kd.R_below (rF6 HO434.out BK436.out) hb); have _ := aM (Kd.R_lower ho0 (below_size (bS HB.out))); have _ := aM (blk_below (kP6 BK436.out) hb); have _ := aM (below_step (bS HB.out) hb); clear HO431 HO434 BK436 HB; rename_i HO431 HO434 HO439 BK436 HB; (try clear hb); (try clear ho0); obtain ⟨hcz522_0, hfz522_0, hcz522_1, hfz522_1, hcz522_2, hfz522_2, hcz522_3, hfz522_3, hcz522_4, hfz522_4, hcz522_5, hfz522_5⟩ := bk6 BK436.out) | ((with_reducible refine gate_callee (f := 10) rfl ?_); refine gL (some 22) rfl rfl Try.func10 (by kernel_rfl) rfl #[.agg #[.int .i64 t426, .int .i64 t427, .int .i64 t428, .slice Ao519 t429.length co519, .slice Ao520 t432.length co520, .int .i64 t435]] rfl ?_; (with_reducible refine (impl_Spaces.calls k t426 t427 t428 _ _ t429 _ _ t432 t435 t440 t441 t442 _ ?side1 ?side2 ?side3 ?side4 A6.out).mono ?_); (case side1 => exact cR HO431.out); (case side2 => exact (Kd.R_reads' HO431.out).2.1); (case side3 => exact cR HO434.out); (case side4 => exact (Kd.R_reads' HO434.out).2.1); rintro e w523 ⟨rfl, hb⟩; refine ⟨_, rfl, ?_⟩; have _ := aM (rB HO431.out hb); have _ := aM (rB HO434.out hb); have _ := aM (rB HO439.out hb); have _ := aM (kB BK436.out hb); have _ := aM (below_step (bS HB.out) hb); clear HO431 HO434 HO439 BK436 HB; rename_i HO431 HO434 HO439 BK436 HB; (try clear hb); obtain ⟨hcz524_0, hfz524_0, hcz524_1, hfz524_1, hcz524_2, hfz524_2, hcz524_3, hfz524_3, hcz524_4, hfz524_4, hcz524_5, hfz524_5⟩ := bk6 BK436.out) | ((with_reducible refine gate_callee (f := 24) rfl ?_); refine gL (some 27) rfl rfl Try.func24 (by kernel_rfl) rfl #[.agg #[.int .i64 t426, .int .i64 t427, .int .i64 t428, .slice Ao519 t429.length co519, .slice Ao520 t432.length co520, .int .i64 t435]] rfl ?_; (with_reducible refine (spec_ReqOk.calls k t426 t427 t428 _ _ t429 _ _ t432 t435 false _ ?side1 ?side2 ?side3 ?side4 A7.out).mono ?_); (case side1 => exact cR HO431.out); (case side2 => exact (Kd.R_reads' HO431.out).2.1); (case side3 => exact cR HO434.out); (case side4 => exact (Kd.R_reads' HO434.out).2.1); rintro e w525 ⟨rfl, hb⟩; refine ⟨_, rfl, ?_⟩; have _ := aM (rB HO431.out hb); have _ := aM (rB HO434.out hb); have _ := aM (rB HO439.out hb); have _ := aM (kB BK436.out hb); have _ := aM (below_step (bS HB.out) hb); clear HO431 HO434 HO439 BK436 HB; rename_i HO431 HO434 HO439 BK436 HB; (try clear hb); obtain ⟨Ao526, co526, eo526⟩ := Kd.R_slice HO439.out; subst eo526; obtain ⟨hcz527_0, hfz527_0, hcz527_1, hfz527_1, hcz527_2, hfz527_2, hcz527_3, hfz527_3, hcz527_4, hfz527_4, hcz527_5, hfz527_5⟩ := bk6 BK436.out) | (go_at_call 25; (with_reducible refine (impl_ReqOk.calls k t426 t427 t428 _ _ t429 _ _ t432 t435 false _ ?side1 ?side2 ?side3 ?side4 A500.out).mono ?_); (case side1 => exact cR HO431.out); (case side2 => exact (Kd.R_reads' HO431.out).2.1); (case side3 => exact cR HO434.out); (case side4 => exact (Kd.R_reads' HO434.out).2.1); rintro e w528 ⟨rfl, hb⟩; have _ := aM (rB HO431.out hb); have _ := aM (rB HO434.out hb); have _ := aM (rB HO439.out hb); have _ := aM (kB BK436.out hb); have _ := aM (below_step (bS HB.out) hb); clear HO431 HO434 HO439 BK436 HB; rename_i HO431 HO434 HO439 BK436 HB; (try clear hb)))
    go_ret
    exact ⟨by first | rfl | (simp [errW_none, errW_some] <;> rfl) | (simp [*, errW_none, errW_some] <;> rfl), bS HB.out⟩
  subst c8
  rw [if_pos rfl] at H
  (try dsimp only at H)
  replace H := Option.bind_eq_some_iff.mp H
  obtain ⟨⟨t445, t446, t447, t448, t451, t454, t455⟩, A90, H⟩ := H
  (try dsimp only at H)
  have A9 := aM A90
  clear A90
  obtain ⟨ji10, hji10⟩ : ∃ j_ : Int, (wrap64 ((t437.length : Int) - 1)) = j_ := ⟨_, rfl⟩
  replace H : (if 0 ≤ (ji10) then (if (ji10) ≤ (t437.length : Int) then ((impl_GetReq.f k (t437.take ((ji10) : Int).toNat)).bind fun bt461 => ((some (([] : List Int) : List Int)).bind fun y473 => (if y473.length + t437.length < 140737488355328 then ((some (y473 ++ t437 : List Int)).bind fun y476 => (if y476.length < 140737488355328 then ((impl_GetReq.f k (y476 ++ [0])).bind fun bt482 => (if t455 = 0 then ((laws_sameReq.f k t445 t446 t447 t448 t451 t454 t426 t427 t428 t429 t432 t435).bind fun t494 => (if t494 = true then (if bt461.2.2.2.2.2.2 = 3 then (if bt482.2.2.2.2.2.2 = 3 then ((impl_ReqOk.f k t426 t427 t428 t429 t432 t435).bind fun t495 => (if t495 = true then (if t441 = t427 then (if t442 ≥ 1 then (if (wrap64 (t441 + t442)) ≤ 65536 then (if t440 ≥ 0 then (if t440 ≤ 3 then ((impl_Writes.f t426 t427 t428 t429 t432 t435).bind fun t496 => (some (t496 == (decide (t426 > 4))))) else (some false)) else (some false)) else (some false)) else (some false)) else (some false)) else (some false))) else (some false)) else (some false)) else (some false))) else (some false))) else (none))) else (none)))) else (none)) else (none)) = some r := by first | (rw [hji10] at H; exact H) | (simp only [hji10] at H ⊢; exact H)
  (try rw [hji10] at A2)
  (try rw [hji10] at A4)
  (try rw [hji10] at A5)
  (try rw [hji10] at A6)
  (try rw [hji10] at A7)
  (try rw [hji10] at A9)
  have hji10w : (IntKind.i64.wrap ((t437.length : Int) - 1)) = ji10 := (i64_w _).trans hji10
  by_cases c11 : 0 ≤ (ji10)
  rotate_left
  ·rw [if_neg c11] at H
   exact absurd H (by simp)
  rw [if_pos c11] at H
  have c11b0 := eq_true c11
  have c11b1 : decide (0 ≤ (ji10)) = true := decide_eq_true c11
  clear c11
  by_cases c12 : (ji10) ≤ (t437.length : Int)
  rotate_left
  ·rw [if_neg c12] at H
   exact absurd H (by simp)
  rw [if_pos c12] at H
  have c12b0 := eq_true c12
  have c12b1 : decide ((ji10) ≤ (t437.length : Int)) = true := decide_eq_true c12
  clear c12
  obtain ⟨y457, hy457⟩ : ∃ y_ : List Int, y_ = (t437.take ((ji10) : Int).toNat) := ⟨_, rfl⟩
  replace H : ((impl_GetReq.f k y457).bind fun bt461 => ((some (([] : List Int) : List Int)).bind fun y473 => (if y473.length + t437.length < 140737488355328 then ((some (y473 ++ t437 : List Int)).bind fun y476 => (if y476.length < 140737488355328 then ((impl_GetReq.f k (y476 ++ [0])).bind fun bt482 => (if t455 = 0 then ((laws_sameReq.f k t445 t446 t447 t448 t451 t454 t426 t427 t428 t429 t432 t435).bind fun t494 => (if t494 = true then (if bt461.2.2.2.2.2.2 = 3 then (if bt482.2.2.2.2.2.2 = 3 then ((impl_ReqOk.f k t426 t427 t428 t429 t432 t435).bind fun t495 => (if t495 = true then (if t441 = t427 then (if t442 ≥ 1 then (if (wrap64 (t441 + t442)) ≤ 65536 then (if t440 ≥ 0 then (if t440 ≤ 3 then ((impl_Writes.f t426 t427 t428 t429 t432 t435).bind fun t496 => (some (t496 == (decide (t426 > 4))))) else (some false)) else (some false)) else (some false)) else (some false)) else (some false)) else (some false))) else (some false)) else (some false)) else (some false))) else (some false))) else (none))) else (none)))) = some r := by first | (rw [hy457]; with_reducible exact H) | (have H2_ := (Option.bind_some _ _).symm.trans H; rw [hy457]; with_reducible exact H2_) | (have H2_ := (Option.bind_some _ _).symm.trans H; with_reducible exact H2_) | with_reducible exact H | (rw [hy457]; exact H) | exact H
  have Ny457 := aM hy457
  clear hy457
  replace H := Option.bind_eq_some_iff.mp H
  obtain ⟨⟨t461, t462, t463, t464, t467, t470, t471⟩, A130, H⟩ := H
  (try dsimp only at H)
  have A13 := aM A130
  clear A130
  obtain ⟨y473, hy473⟩ : ∃ y_ : List Int, y_ = (([] : List Int)) := ⟨_, rfl⟩
  replace H : (if y473.length + t437.length < 140737488355328 then ((some (y473 ++ t437 : List Int)).bind fun y476 => (if y476.length < 140737488355328 then ((impl_GetReq.f k (y476 ++ [0])).bind fun bt482 => (if t455 = 0 then ((laws_sameReq.f k t445 t446 t447 t448 t451 t454 t426 t427 t428 t429 t432 t435).bind fun t494 => (if t494 = true then (if t471 = 3 then (if bt482.2.2.2.2.2.2 = 3 then ((impl_ReqOk.f k t426 t427 t428 t429 t432 t435).bind fun t495 => (if t495 = true then (if t441 = t427 then (if t442 ≥ 1 then (if (wrap64 (t441 + t442)) ≤ 65536 then (if t440 ≥ 0 then (if t440 ≤ 3 then ((impl_Writes.f t426 t427 t428 t429 t432 t435).bind fun t496 => (some (t496 == (decide (t426 > 4))))) else (some false)) else (some false)) else (some false)) else (some false)) else (some false)) else (some false))) else (some false)) else (some false)) else (some false))) else (some false))) else (none))) else (none)) = some r := by first | (rw [hy473]; with_reducible exact H) | (have H2_ := (Option.bind_some _ _).symm.trans H; rw [hy473]; with_reducible exact H2_) | (have H2_ := (Option.bind_some _ _).symm.trans H; with_reducible exact H2_) | with_reducible exact H | (rw [hy473]; exact H) | exact H
  have Ny473 := aM hy473
  clear hy473
  by_cases c14 : y473.length + t437.length < 140737488355328
  rotate_left
  ·rw [if_neg c14] at H
   exact absurd H (by simp)
  rw [if_pos c14] at H
  have LMc14 := aM c14
  clear c14
  obtain ⟨y476, hy476⟩ : ∃ y_ : List Int, y_ = (y473 ++ t437) := ⟨_, rfl⟩
  replace H : (if y476.length < 140737488355328 then ((impl_GetReq.f k (y476 ++ [0])).bind fun bt482 => (if t455 = 0 then ((laws_sameReq.f k t445 t446 t447 t448 t451 t454 t426 t427 t428 t429 t432 t435).bind fun t494 => (if t494 = true then (if t471 = 3 then (if bt482.2.2.2.2.2.2 = 3 then ((impl_ReqOk.f k t426 t427 t428 t429 t432 t435).bind fun t495 => (if t495 = true then (if t441 = t427 then (if t442 ≥ 1 then (if (wrap64 (t441 + t442)) ≤ 65536 then (if t440 ≥ 0 then (if t440 ≤ 3 then ((impl_Writes.f t426 t427 t428 t429 t432 t435).bind fun t496 => (some (t496 == (decide (t426 > 4))))) else (some false)) else (some false)) else (some false)) else (some false)) else (some false)) else (some false))) else (some false)) else (some false)) else (some false))) else (some false))) else (none)) = some r := by first | (rw [hy476]; with_reducible exact H) | (have H2_ := (Option.bind_some _ _).symm.trans H; rw [hy476]; with_reducible exact H2_) | (have H2_ := (Option.bind_some _ _).symm.trans H; with_reducible exact H2_) | with_reducible exact H | (rw [hy476]; exact H) | exact H
  have Ny476 := aM hy476
  clear hy476
  by_cases c15 : y476.length < 140737488355328
  rotate_left
  ·rw [if_neg c15] at H
   exact absurd H (by simp)
  rw [if_pos c15] at H
  have LMc15 := aM c15
  clear c15
  obtain ⟨y479, hy479⟩ : ∃ y_ : List Int, y_ = (y476 ++ [0]) := ⟨_, rfl⟩
  replace H : ((impl_GetReq.f k y479).bind fun bt482 => (if t455 = 0 then ((laws_sameReq.f k t445 t446 t447 t448 t451 t454 t426 t427 t428 t429 t432 t435).bind fun t494 => (if t494 = true then (if t471 = 3 then (if bt482.2.2.2.2.2.2 = 3 then ((impl_ReqOk.f k t426 t427 t428 t429 t432 t435).bind fun t495 => (if t495 = true then (if t441 = t427 then (if t442 ≥ 1 then (if (wrap64 (t441 + t442)) ≤ 65536 then (if t440 ≥ 0 then (if t440 ≤ 3 then ((impl_Writes.f t426 t427 t428 t429 t432 t435).bind fun t496 => (some (t496 == (decide (t426 > 4))))) else (some false)) else (some false)) else (some false)) else (some false)) else (some false)) else (some false))) else (some false)) else (some false)) else (some false))) else (some false))) = some r := by first | (rw [hy479]; with_reducible exact H) | (have H2_ := (Option.bind_some _ _).symm.trans H; rw [hy479]; with_reducible exact H2_) | (have H2_ := (Option.bind_some _ _).symm.trans H; with_reducible exact H2_) | with_reducible exact H | (rw [hy479]; exact H) | exact H
  have Ny479 := aM hy479
  clear hy479
  replace H := Option.bind_eq_some_iff.mp H
  obtain ⟨⟨t482, t483, t484, t485, t488, t491, t492⟩, A160, H⟩ := H
  (try dsimp only at H)
  have A16 := aM A160
  clear A160
  go_enter Try.func6, Try.ntmps6
  try go_wp2_with (first | ((with_reducible refine gate_callee (f := 22) rfl ?_); refine gL (some 15) rfl rfl Try.func22 (by kernel_rfl) rfl #[.slice A0 l0.length c0] rfl ?_; (with_reducible refine (laws_big.calls _ _ l0 false _ ?side1 ?side2 A2.out).mono ?_); (case side1 => repeat (first | exact HR0.out | (with_reducible refine Kd.C_alloc ?_ _) | (with_reducible refine Kd.C_drewN ?_ _) | (with_reducible refine Kd.C_drew ?_))); (case side2 => exact HC0.out); rintro e w' ⟨rfl, ⟨nd, rfl⟩⟩; refine ⟨_, rfl, ?_⟩) | ((with_reducible refine gate_callee (f := 23) rfl ?_); refine gL (some 17) rfl rfl Try.func23 (by kernel_rfl) rfl #[.slice A0 l0.length c0] rfl ?_; (with_reducible refine (spec_DrawPutReq.calls k _ _ l0 t426 t427 t428 t429 t432 t435 _ ?side1 ?side2 A4.out).mono ?_); (case side1 => repeat (first | exact HR0.out | (with_reducible refine Kd.C_alloc ?_ _) | (with_reducible refine Kd.C_drewN ?_ _) | (with_reducible refine Kd.C_drew ?_))); (case side2 => exact HC0.out); rintro e w30 ⟨v430, v433, rfl, ho0, ho1, hb⟩; refine ⟨_, rfl, ?_⟩; have _ := aM (Kd.R_lower ho0 (below_size (bS HB.out))); have _ := aM (Kd.R_lower ho1 (below_size (bS HB.out))); have _ := aM (below_step (bS HB.out) hb); clear HB; rename_i HO431 HO434 HB; (try clear hb); (try clear ho0); (try clear ho1)) | ((with_reducible refine gate_dst (N := 3) rfl ?_); refine box_event ?hg (N := 3) ?hd (cs := #[.int .i64 0, .int .i64 0, .int .i64 0, .slice none 0 0, .slice none 0 0, .int .i64 0]) (t := 29) ?hr ?_; (case hd => rfl); (case hg => rfl); (case hr => first | (go_simp; done) | (go_simp; rfl)); intro gb436 hg w31 hbox hb; have _ := aM (rB HO431.out hb); have _ := aM (rB HO434.out hb); have _ := aM (below_step (bS HB.out) hb); have _ := aM (hbox); have _ := aM (leG hg (bS HB.out)); have _ := aM (leG hg (bS HB.out)); clear HO431 HO434 HB; rename_i HO431 HO434 HB BK436 GW436 GE436; clear hb hbox hg; obtain ⟨hcz32_0, hfz32_0, hcz32_1, hfz32_1, hcz32_2, hfz32_2, hcz32_3, hfz32_3, hcz32_4, hfz32_4, hcz32_5, hfz32_5⟩ := bk6 BK436.out; obtain ⟨Ao33, co33, eo33⟩ := Kd.R_slice HO431.out; subst eo33; obtain ⟨Ao34, co34, eo34⟩ := Kd.R_slice HO434.out; subst eo34) | ((with_reducible refine gate_callee (f := 13) rfl ?_); refine gL (some 19) rfl rfl Try.func13 (by kernel_rfl) rfl #[.agg #[.int .i64 t426, .int .i64 t427, .int .i64 t428, .slice Ao33 t429.length co33, .slice Ao34 t432.length co34, .int .i64 t435]] rfl ?_; (with_reducible refine (impl_PutReq.calls k t426 t427 t428 _ _ t429 _ _ t432 t435 t437 _ ?side1 ?side2 ?side3 ?side4 A5.out).mono ?_); (case side1 => exact (Kd.R_reads' (rF6 HO431.out BK436.out)).2.2); (case side2 => exact (Kd.R_reads' HO431.out).2.1); (case side3 => exact (Kd.R_reads' (rF6 HO434.out BK436.out)).2.2); (case side4 => exact (Kd.R_reads' HO434.out).2.1); rintro e w35 ⟨v438, rfl, ho0, hb⟩; refine ⟨_, rfl, ?_⟩; have _ := aM (Kd.R_below (rF6 HO431.out BK436.out) hb); have _ := aM (Kd.R_below (rF6 HO434.out BK436.out) hb); have _ := aM (Kd.R_lower ho0 (below_size (bS HB.out))); have _ := aM (blk_below (kP6 BK436.out) hb); have _ := aM (below_step (bS HB.out) hb); clear HO431 HO434 BK436 HB; rename_i HO431 HO434 HO439 BK436 HB; (try clear hb); (try clear ho0); obtain ⟨hcz36_0, hfz36_0, hcz36_1, hfz36_1, hcz36_2, hfz36_2, hcz36_3, hfz36_3, hcz36_4, hfz36_4, hcz36_5, hfz36_5⟩ := bk6 BK436.out) | ((with_reducible refine gate_callee (f := 10) rfl ?_); refine gL (some 22) rfl rfl Try.func10 (by kernel_rfl) rfl #[.agg #[.int .i64 t426, .int .i64 t427, .int .i64 t428, .slice Ao33 t429.length co33, .slice Ao34 t432.length co34, .int .i64 t435]] rfl ?_; (with_reducible refine (impl_Spaces.calls k t426 t427 t428 _ _ t429 _ _ t432 t435 t440 t441 t442 _ ?side1 ?side2 ?side3 ?side4 A6.out).mono ?_); (case side1 => exact cR HO431.out); (case side2 => exact (Kd.R_reads' HO431.out).2.1); (case side3 => exact cR HO434.out); (case side4 => exact (Kd.R_reads' HO434.out).2.1); rintro e w37 ⟨rfl, hb⟩; refine ⟨_, rfl, ?_⟩; have _ := aM (rB HO431.out hb); have _ := aM (rB HO434.out hb); have _ := aM (rB HO439.out hb); have _ := aM (kB BK436.out hb); have _ := aM (below_step (bS HB.out) hb); clear HO431 HO434 HO439 BK436 HB; rename_i HO431 HO434 HO439 BK436 HB; (try clear hb); obtain ⟨hcz38_0, hfz38_0, hcz38_1, hfz38_1, hcz38_2, hfz38_2, hcz38_3, hfz38_3, hcz38_4, hfz38_4, hcz38_5, hfz38_5⟩ := bk6 BK436.out) | ((with_reducible refine gate_callee (f := 24) rfl ?_); refine gL (some 27) rfl rfl Try.func24 (by kernel_rfl) rfl #[.agg #[.int .i64 t426, .int .i64 t427, .int .i64 t428, .slice Ao33 t429.length co33, .slice Ao34 t432.length co34, .int .i64 t435]] rfl ?_; (with_reducible refine (spec_ReqOk.calls k t426 t427 t428 _ _ t429 _ _ t432 t435 true _ ?side1 ?side2 ?side3 ?side4 A7.out).mono ?_); (case side1 => exact cR HO431.out); (case side2 => exact (Kd.R_reads' HO431.out).2.1); (case side3 => exact cR HO434.out); (case side4 => exact (Kd.R_reads' HO434.out).2.1); rintro e w39 ⟨rfl, hb⟩; refine ⟨_, rfl, ?_⟩; have _ := aM (rB HO431.out hb); have _ := aM (rB HO434.out hb); have _ := aM (rB HO439.out hb); have _ := aM (kB BK436.out hb); have _ := aM (below_step (bS HB.out) hb); clear HO431 HO434 HO439 BK436 HB; rename_i HO431 HO434 HO439 BK436 HB; (try clear hb); obtain ⟨Ao40, co40, eo40⟩ := Kd.R_slice HO439.out; subst eo40) | ((with_reducible refine gate_callee (f := 20) rfl ?_); refine gL (some 47) rfl rfl Try.func20 (by kernel_rfl) rfl #[.slice Ao40 t437.length co40] rfl ?_; (with_reducible refine (impl_GetReq.calls k _ _ t437 t445 t446 t447 t448 t451 t454 t455 _ ?side1 ?side2 A9.out).mono ?_); (case side1 => exact cR HO439.out); (case side2 => exact (Kd.R_reads' HO439.out).2.1); rintro e w41 ⟨v449, v452, rfl, ho0, ho1, hb⟩; refine ⟨_, rfl, ?_⟩; have _ := aM (Kd.R_elder' (rA HO431.out) (Kd.R_base ho0) hb); have _ := aM (Kd.R_elder' (rA HO434.out) (Kd.R_base ho1) hb); have _ := aM (rB HO439.out hb); have _ := aM (Kd.R_lower (Kd.R_new' ho0 (Kd.R_lt (rA HO431.out))) (below_size (bS HB.out))); have _ := aM (Kd.R_lower (Kd.R_new' ho1 (Kd.R_lt (rA HO434.out))) (below_size (bS HB.out))); have _ := aM (kB BK436.out hb); have _ := aM (below_step (bS HB.out) hb); clear HO431 HO434 HO439 BK436 HB; rename_i HO431 HO434 HO439 HO450 HO453 BK436 HB; (try clear hb); (try clear ho0); (try clear ho1)) | ((with_reducible refine gate_dst (N := 8) rfl ?_); refine box_event ?hg (N := 8) ?hd (cs := #[.int .i64 0, .int .i64 0, .int .i64 0, .slice none 0 0, .slice none 0 0, .int .i64 0]) (t := 29) ?hr ?_; (case hd => rfl); (case hg => rfl); (case hr => first | (go_simp; done) | (go_simp; rfl)); intro gb456 hg w42 hbox hb; have _ := aM (rB HO431.out hb); have _ := aM (rB HO434.out hb); have _ := aM (rB HO439.out hb); have _ := aM (rB HO450.out hb); have _ := aM (rB HO453.out hb); have _ := aM (kB BK436.out hb); have _ := aM (below_step (bS HB.out) hb); have _ := aM (hbox); have _ := aM (leG hg (bS HB.out)); have _ := aM (leG hg (bS HB.out)); have _ := aM (neL hg (kA BK436.out)); have _ := aM (neG hg (kA BK436.out)); clear HO431 HO434 HO439 HO450 HO453 BK436 HB; rename_i HO431 HO434 HO439 HO450 HO453 BK436 HB BK456 GW456 GE456 NB436_456 NB456_436; clear hb hbox hg; have hnb43 := NB456_436.out; have hnc43 := NB436_456.out; obtain ⟨hcz44_0, hfz44_0, hcz44_1, hfz44_1, hcz44_2, hfz44_2, hcz44_3, hfz44_3, hcz44_4, hfz44_4, hcz44_5, hfz44_5⟩ := bk6 BK456.out; obtain ⟨Ao45, co45, eo45⟩ := Kd.R_slice HO450.out; subst eo45; obtain ⟨Ao46, co46, eo46⟩ := Kd.R_slice HO453.out; subst eo46) | ((with_reducible refine gate_store (t := 29) (p := 8) rfl ?_); refine store_event (t := 29) (p := 8) (v := ?vo_w47) (w1 := ((((((w42.setCell ⟨gb456, 0, none⟩ (.int .i64 t445)).setCell ⟨gb456, 1, none⟩ (.int .i64 t446)).setCell ⟨gb456, 2, none⟩ (.int .i64 t447)).setCell ⟨gb456, 3, none⟩ (.slice Ao45 t448.length co45)).setCell ⟨gb456, 4, none⟩ (.slice Ao46 t451.length co46)).setCell ⟨gb456, 5, none⟩ (.int .i64 t454))) ?hg ?ho ?hn ?hr ?_; (case ho => rfl); (case hg => rfl); (case hn => rfl); (case hr => first | (go_simp; done) | (go_simp; rfl)); intro w47 hw; have n0_ : Aside0 (Kd.R (Kd.int .i64) 3 w47 w.heap.size (fun k_ => some k_ ≠ (.slice Ao45 t448.length co45 : Value).ownBlock) (.slice Ao33 t429.length co33) t429) := ⟨(by rw [hw]; exact (by (with_reducible repeat (first | apply Kd.R_alloc | apply Kd.R_drewN | apply Kd.R_drew)); exact Kd.R_mono (Kd.R_far (p := ⟨gb456, 5, none⟩) (Kd.R_far (p := ⟨gb456, 4, none⟩) (Kd.R_far (p := ⟨gb456, 3, none⟩) (Kd.R_far (p := ⟨gb456, 2, none⟩) (Kd.R_far (p := ⟨gb456, 1, none⟩) (Kd.R_far (p := ⟨gb456, 0, none⟩) (Kd.R_types HO431.out BK456.out (by decide)) (fun _ hk => hk.2) (.int .i64 t445)) (fun _ hk => hk.2) (.int .i64 t446)) (fun _ hk => hk.2) (.int .i64 t447)) (fun _ hk => hk.2) (.slice Ao45 t448.length co45)) (fun _ hk => hk.2) (.slice Ao46 t451.length co46)) (fun _ hk => hk.2) (.int .i64 t454)) (fun _ hk => hk.1.2)))⟩; have n1_ : Aside0 (Kd.R Kd.bool 4 w47 w.heap.size (fun k_ => some k_ ≠ (.slice Ao46 t451.length co46 : Value).ownBlock) (.slice Ao34 t432.length co34) t432) := ⟨(by rw [hw]; exact (by (with_reducible repeat (first | apply Kd.R_alloc | apply Kd.R_drewN | apply Kd.R_drew)); exact Kd.R_mono (Kd.R_far (p := ⟨gb456, 5, none⟩) (Kd.R_far (p := ⟨gb456, 4, none⟩) (Kd.R_far (p := ⟨gb456, 3, none⟩) (Kd.R_far (p := ⟨gb456, 2, none⟩) (Kd.R_far (p := ⟨gb456, 1, none⟩) (Kd.R_far (p := ⟨gb456, 0, none⟩) (Kd.R_types HO434.out BK456.out (by decide)) (fun _ hk => hk.2) (.int .i64 t445)) (fun _ hk => hk.2) (.int .i64 t446)) (fun _ hk => hk.2) (.int .i64 t447)) (fun _ hk => hk.2) (.slice Ao45 t448.length co45)) (fun _ hk => hk.2) (.slice Ao46 t451.length co46)) (fun _ hk => hk.2) (.int .i64 t454)) (fun _ hk => hk.1.2)))⟩; have n2_ : Aside0 (Kd.R (Kd.int .u8) 5 w47 w.heap.size (fun _ => True) (.slice Ao40 t437.length co40) t437) := ⟨(by rw [hw]; exact (by (with_reducible repeat (first | apply Kd.R_alloc | apply Kd.R_drewN | apply Kd.R_drew)); exact Kd.R_mono (Kd.R_far (p := ⟨gb456, 5, none⟩) (Kd.R_far (p := ⟨gb456, 4, none⟩) (Kd.R_far (p := ⟨gb456, 3, none⟩) (Kd.R_far (p := ⟨gb456, 2, none⟩) (Kd.R_far (p := ⟨gb456, 1, none⟩) (Kd.R_far (p := ⟨gb456, 0, none⟩) (Kd.R_types HO439.out BK456.out (by decide)) (fun _ hk => hk.2) (.int .i64 t445)) (fun _ hk => hk.2) (.int .i64 t446)) (fun _ hk => hk.2) (.int .i64 t447)) (fun _ hk => hk.2) (.slice Ao45 t448.length co45)) (fun _ hk => hk.2) (.slice Ao46 t451.length co46)) (fun _ hk => hk.2) (.int .i64 t454)) (fun _ hk => trivial)))⟩; have n3_ : Aside0 (Kd.R (Kd.int .i64) 3 w47 w.heap.size (fun k_ => some k_ ≠ (.slice Ao33 t429.length co33 : Value).ownBlock) (.slice Ao45 t448.length co45) t448) := ⟨(by rw [hw]; exact (by (with_reducible repeat (first | apply Kd.R_alloc | apply Kd.R_drewN | apply Kd.R_drew)); exact Kd.R_mono (Kd.R_far (p := ⟨gb456, 5, none⟩) (Kd.R_far (p := ⟨gb456, 4, none⟩) (Kd.R_far (p := ⟨gb456, 3, none⟩) (Kd.R_far (p := ⟨gb456, 2, none⟩) (Kd.R_far (p := ⟨gb456, 1, none⟩) (Kd.R_far (p := ⟨gb456, 0, none⟩) (Kd.R_types HO450.out BK456.out (by decide)) (fun _ hk => hk.2) (.int .i64 t445)) (fun _ hk => hk.2) (.int .i64 t446)) (fun _ hk => hk.2) (.int .i64 t447)) (fun _ hk => hk.2) (.slice Ao45 t448.length co45)) (fun _ hk => hk.2) (.slice Ao46 t451.length co46)) (fun _ hk => hk.2) (.int .i64 t454)) (fun _ hk => hk.1.2)))⟩; have n4_ : Aside0 (Kd.R Kd.bool 4 w47 w.heap.size (fun k_ => some k_ ≠ (.slice Ao34 t432.length co34 : Value).ownBlock) (.slice Ao46 t451.length co46) t451) := ⟨(by rw [hw]; exact (by (with_reducible repeat (first | apply Kd.R_alloc | apply Kd.R_drewN | apply Kd.R_drew)); exact Kd.R_mono (Kd.R_far (p := ⟨gb456, 5, none⟩) (Kd.R_far (p := ⟨gb456, 4, none⟩) (Kd.R_far (p := ⟨gb456, 3, none⟩) (Kd.R_far (p := ⟨gb456, 2, none⟩) (Kd.R_far (p := ⟨gb456, 1, none⟩) (Kd.R_far (p := ⟨gb456, 0, none⟩) (Kd.R_types HO453.out BK456.out (by decide)) (fun _ hk => hk.2) (.int .i64 t445)) (fun _ hk => hk.2) (.int .i64 t446)) (fun _ hk => hk.2) (.int .i64 t447)) (fun _ hk => hk.2) (.slice Ao45 t448.length co45)) (fun _ hk => hk.2) (.slice Ao46 t451.length co46)) (fun _ hk => hk.2) (.int .i64 t454)) (fun _ hk => hk.1.2)))⟩; have n5_ : Aside0 (w47.heap[gb436]? = some (.cells #[.int .i64 t426, .int .i64 t427, .int .i64 t428, .slice Ao33 t429.length co33, .slice Ao34 t432.length co34, .int .i64 t435] 29 (0, 0))) := ⟨(by rw [hw]; exact (kF6 BK436.out NB436_456.out))⟩; have n6_ : Aside0 (w47.heap[gb456]? = some (.cells #[.int .i64 t445, .int .i64 t446, .int .i64 t447, .slice Ao45 t448.length co45, .slice Ao46 t451.length co46, .int .i64 t454] 29 (0, 0))) := ⟨(by rw [hw]; exact (kP6 BK456.out))⟩; have n7_ : Aside0 (Below w.heap.size w w47) := ⟨(by rw [hw]; exact (bS HB.out))⟩; clear hw HO431 HO434 HO439 HO450 HO453 BK436 BK456 HB; have HO431 := n0_; have HO434 := n1_; have HO439 := n2_; have HO450 := n3_; have HO453 := n4_; have BK436 := n5_; have BK456 := n6_; have HB := n7_; clear n0_ n1_ n2_ n3_ n4_ n5_ n6_ n7_; have q48 : ((ji10) : Int) ≤ ((t437.length : Int) : Int) := of_decide_eq_true (by first | (with_reducible assumption) | assumption); obtain ⟨i048, hi048, _, hsz48, _⟩ := info_parts info5; have hroom48 : t437.length ≤ co40 := (Kd.R_reads' HO439.out).2.1; have hC48 : Kd.C (Kd.int .u8) _ Ao40 t437.length t437 := (Kd.R_reads' HO439.out).2.2; have hcut48 := cut_to (P := Try.prog) 33 5 .i64 Try.underlying33 hi048 Ao40 t437.length co40 (ji10) (of_decide_eq_true (by first | (with_reducible assumption) | assumption)) q48 hroom48; have hr48 := Kd.C_take (m := ((ji10) : Int).toNat) hC48 (by omega); have hy48 : y457.length = ((ji10) : Int).toNat := (by rw [Ny457.out, List.length_take]; omega); rw [← Ny457.out] at hr48; rw [← hy48] at hcut48; have HR460 := aM hr48; have HC460 := aM (show y457.length ≤ co40 from by omega); clear hr48 hC48 hroom48 hi048 hsz48; have KY48 := aM hy48; clear hy48; have KL48 := aM (show ((ji10) : Int).toNat ≤ t437.length from by omega); replace q48 := eq_true q48) | ((with_reducible refine gate_callee (f := 20) rfl ?_); refine gL (some 56) rfl rfl Try.func20 (by kernel_rfl) rfl #[.slice Ao40 y457.length co40] rfl ?_; (with_reducible refine (impl_GetReq.calls k _ _ y457 t461 t462 t463 t464 t467 t470 t471 _ ?side1 ?side2 A13.out).mono ?_); (case side1 => repeat (first | exact (by repeat (first | (with_reducible exact HR460.out) | (with_reducible refine Kd.C_alloc ?_ _) | (with_reducible refine Kd.C_drewN ?_ _) | (with_reducible refine Kd.C_drew ?_) | exact HR460.out)) | (with_reducible refine Kd.C_alloc ?_ _) | (with_reducible refine Kd.C_drewN ?_ _) | (with_reducible refine Kd.C_drew ?_))); (case side2 => exact HC460.out); rintro e w49 ⟨v465, v468, rfl, ho0, ho1, hb⟩; refine ⟨_, rfl, ?_⟩; have _ := aM (Kd.R_elder' (rA HO431.out) (Kd.R_base ho0) hb); have _ := aM (Kd.R_elder' (rA HO434.out) (Kd.R_base ho1) hb); have _ := aM (rB HO439.out hb); have _ := aM (Kd.R_elder' (rA HO450.out) (Kd.R_base ho0) hb); have _ := aM (Kd.R_elder' (rA HO453.out) (Kd.R_base ho1) hb); have _ := aM (Kd.R_lower (Kd.R_new' (Kd.R_new' ho0 (Kd.R_lt (rA HO431.out))) (Kd.R_lt (rA HO450.out))) (below_size (bS HB.out))); have _ := aM (Kd.R_lower (Kd.R_new' (Kd.R_new' ho1 (Kd.R_lt (rA HO434.out))) (Kd.R_lt (rA HO453.out))) (below_size (bS HB.out))); have _ := aM (kB BK436.out hb); have _ := aM (kB BK456.out hb); have _ := aM (Kd.C_below (by repeat (first | (with_reducible exact HR460.out) | (with_reducible refine Kd.C_alloc ?_ _) | (with_reducible refine Kd.C_drewN ?_ _) | (with_reducible refine Kd.C_drew ?_) | exact HR460.out)) hb); have _ := aM (below_step (bS HB.out) hb); clear HO431 HO434 HO439 HO450 HO453 BK436 BK456 HR460 HB; rename_i HO431 HO434 HO439 HO450 HO453 HO466 HO469 BK436 BK456 HR460 HB; (try clear hb); (try clear ho0); (try clear ho1)) | ((with_reducible refine gate_dst (N := 10) rfl ?_); refine box_event ?hg (N := 10) ?hd (cs := #[.int .i64 0, .int .i64 0, .int .i64 0, .slice none 0 0, .slice none 0 0, .int .i64 0]) (t := 29) ?hr ?_; (case hd => rfl); (case hg => rfl); (case hr => first | (go_simp; done) | (go_simp; rfl)); intro gb472 hg w50 hbox hb; have _ := aM (rB HO431.out hb); have _ := aM (rB HO434.out hb); have _ := aM (rB HO439.out hb); have _ := aM (rB HO450.out hb); have _ := aM (rB HO453.out hb); have _ := aM (rB HO466.out hb); have _ := aM (rB HO469.out hb); have _ := aM (kB BK436.out hb); have _ := aM (kB BK456.out hb); have _ := aM (Kd.C_below (by repeat (first | (with_reducible exact HR460.out) | (with_reducible refine Kd.C_alloc ?_ _) | (with_reducible refine Kd.C_drewN ?_ _) | (with_reducible refine Kd.C_drew ?_) | exact HR460.out)) hb); have _ := aM (below_step (bS HB.out) hb); have _ := aM (hbox); have _ := aM (leG hg (bS HB.out)); have _ := aM (leG hg (bS HB.out)); have _ := aM (neL hg (kA BK436.out)); have _ := aM (neG hg (kA BK436.out)); have _ := aM (neL hg (kA BK456.out)); have _ := aM (neG hg (kA BK456.out)); clear HO431 HO434 HO439 HO450 HO453 HO466 HO469 BK436 BK456 HR460 HB; rename_i HO431 HO434 HO439 HO450 HO453 HO466 HO469 BK436 BK456 HR460 HB BK472 GW472 GE472 NB436_472 NB472_436 NB456_472 NB472_456; clear hb hbox hg; have hnb51 := NB472_436.out; have hnc51 := NB436_472.out; have hnb52 := NB472_456.out; have hnc52 := NB456_472.out; obtain ⟨hcz53_0, hfz53_0, hcz53_1, hfz53_1, hcz53_2, hfz53_2, hcz53_3, hfz53_3, hcz53_4, hfz53_4, hcz53_5, hfz53_5⟩ := bk6 BK472.out; obtain ⟨Ao54, co54, eo54⟩ := Kd.R_slice HO466.out; subst eo54; obtain ⟨Ao55, co55, eo55⟩ := Kd.R_slice HO469.out; subst eo55) | ((with_reducible refine gate_dst (N := 60) rfl ?_); refine Kd.R_lit (Kd.int .u8) _ 5 ?hg (N := 60) ?hd (xs := ([] : List Int)) (inner := []) (ok := fun _ => True) (okp := fun _ => True) ?hr ?hp (fun _ hk => hk) trivial (Below.refl _ _) (Nat.le_refl _) (by simp) ?_; (case hd => rfl); (case hg => rfl); (case hr => first | (go_simp; done) | (go_simp; rfl)); (case hp => exact (Reps.none _ _)); intro v474 w56 ho57 hb hg_ hnew_; clear hg_ hnew_; (first | rw [← Ny473.out] at ho57 | (simp only [Int.reduceToNat] at ho57; rw [← Ny473.out] at ho57)); have _ := aM (Kd.R_below (rF6 HO431.out BK472.out) hb); have _ := aM (Kd.R_below (rF6 HO434.out BK472.out) hb); have _ := aM (Kd.R_elder' (rF6 HO439.out BK472.out) (Kd.R_base ho57) hb); have _ := aM (Kd.R_below (rF6 HO450.out BK472.out) hb); have _ := aM (Kd.R_below (rF6 HO453.out BK472.out) hb); have _ := aM (Kd.R_below (rF6 HO466.out BK472.out) hb); have _ := aM (Kd.R_below (rF6 HO469.out BK472.out) hb); have _ := aM (Kd.R_lower (Kd.R_new' ho57 (Kd.R_lt (rF6 HO439.out BK472.out))) (below_size (bS HB.out))); have _ := aM (blk_below (kF6 BK436.out NB436_472.out) hb); have _ := aM (blk_below (kF6 BK456.out NB456_472.out) hb); have _ := aM (Kd.C_below (show Kd.C (Kd.int .u8) _ _ y457.length y457 from by (with_reducible repeat (first | apply Kd.C_alloc | apply Kd.C_drewN | apply Kd.C_drew)); rw [Ny457.out]; exact Kd.C_take (m := ((ji10) : Int).toNat) ((Kd.R_reads' (Kd.R_far (p := ⟨gb472, 5, none⟩) (Kd.R_far (p := ⟨gb472, 4, none⟩) (Kd.R_far (p := ⟨gb472, 3, none⟩) (Kd.R_far (p := ⟨gb472, 2, none⟩) (Kd.R_far (p := ⟨gb472, 1, none⟩) (Kd.R_far (p := ⟨gb472, 0, none⟩) (Kd.R_types HO439.out BK472.out (by decide)) (fun _ hk => hk.2) (.int .i64 t461)) (fun _ hk => hk.2) (.int .i64 t462)) (fun _ hk => hk.2) (.int .i64 t463)) (fun _ hk => hk.2) (.slice Ao54 t464.length co54)) (fun _ hk => hk.2) (.slice Ao55 t467.length co55)) (fun _ hk => hk.2) (.int .i64 t470))).2.2) KL48.out) hb); have _ := aM (blk_below (kP6 BK472.out) hb); have _ := aM (below_step (bS HB.out) hb); clear HO431 HO434 HO439 HO450 HO453 HO466 HO469 BK436 BK456 HR460 BK472 HB; rename_i HO431 HO434 HO439 HO450 HO453 HO466 HO469 HO475 BK436 BK456 HR460 BK472 HB; clear hb ho57) | ((with_reducible refine gate_builtin (b := .append) (xs := #[.tmp 60, .tmp 61]) rfl ?_); at_builtin; refine Kd.R_append_rows (Kd.int .u8) (w0 := w) w.heap.size rfl (.tmp 60) (.tmp 61) 33 5 (.int .u8 0) 1 rfl Try.underlying33 info5 rfl (by decide) (by omega) v474 y473 t437 _ _ _ (fun k_ => some k_ ≠ (.slice Ao40 t437.length co40 : Value).ownBlock) (fun _ => False) rfl rfl ?aO ?aR (fun _ _ h => h) (fun _ h => h.elim) ?aF ?aB ?aS ?aL ?_; (case aR => repeat (first | exact (Kd.R_reads' HO439.out).2.2 | (with_reducible refine Kd.C_alloc ?_ _) | (with_reducible refine Kd.C_drewN ?_ _) | (with_reducible refine Kd.C_drew ?_))); (case aB => exact (bS HB.out)); (case aF => exact (fun k_ hk => Kd.fresh' (Kd.R_lt (rA HO439.out)) k_ hk)); (case aO => exact (by (with_reducible repeat (first | apply Kd.R_alloc | apply Kd.R_drewN | apply Kd.R_drew)); exact Kd.R_mono HO475.out (fun _ hk => hk.2))); (case aS => exact (below_size (bS HB.out))); (case aL => have := LMc14.out; omega); intro v477 w58 ho hb hg hat; rw [← Ny476.out] at ho; have _ := aM (Kd.R_over' (rA HO431.out) (Kd.R_typed (rA HO475.out)) (by decide) hg); have _ := aM (Kd.R_over' (rA HO434.out) (Kd.R_typed (rA HO475.out)) (by decide) hg); have _ := aM (blk_grown (g := gb436) (o := .cells #[.int .i64 t426, .int .i64 t427, .int .i64 t428, .slice Ao33 t429.length co33, .slice Ao34 t432.length co34, .int .i64 t435] 29 (0, 0)) (kA BK436.out) hg (Kd.R_ne HO475.out BK436.out (by decide))); have _ := aM (Kd.R_after (ok := (fun _ => True)) (rA HO439.out) hg hat); have _ := aM (Kd.R_over' (rA HO450.out) (Kd.R_typed (rA HO475.out)) (by decide) hg); have _ := aM (Kd.R_over' (rA HO453.out) (Kd.R_typed (rA HO475.out)) (by decide) hg); have _ := aM (blk_grown (g := gb456) (o := .cells #[.int .i64 t445, .int .i64 t446, .int .i64 t447, .slice Ao45 t448.length co45, .slice Ao46 t451.length co46, .int .i64 t454] 29 (0, 0)) (kA BK456.out) hg (Kd.R_ne HO475.out BK456.out (by decide))); have _ := aM (Kd.R_over' (rA HO466.out) (Kd.R_typed (rA HO475.out)) (by decide) hg); have _ := aM (Kd.R_over' (rA HO469.out) (Kd.R_typed (rA HO475.out)) (by decide) hg); have _ := aM (blk_grown (g := gb472) (o := .cells #[.int .i64 t461, .int .i64 t462, .int .i64 t463, .slice Ao54 t464.length co54, .slice Ao55 t467.length co55, .int .i64 t470] 29 (0, 0)) (kA BK472.out) hg (Kd.R_ne HO475.out BK472.out (by decide))); have _ := aM (hb); have _ := aM ((show Kd.C (Kd.int .u8) w58 Ao40 y457.length y457 from by rw [Ny457.out]; exact Kd.C_take (m := ((ji10) : Int).toNat) ((Kd.R_reads' (Kd.R_after (ok := (fun _ => True)) (rA HO439.out) hg hat)).2.2) KL48.out)); have _ := aM (ho); clear HO431 HO434 BK436 HO439 HO450 HO453 BK456 HO466 HO469 BK472 HB HR460 HO475; rename_i HO431 HO434 BK436 HO439 HO450 HO453 BK456 HO466 HO469 BK472 HB HR460 HO478; clear ho hb hg hat) | ((with_reducible refine gate_builtin (b := .append) (xs := #[.tmp 62, .tmp 63]) rfl ?_); at_builtin; refine Kd.R_append (Kd.int .u8) (w0 := w) w.heap.size rfl (.tmp 62) (.tmp 63) 33 5 (.int .u8 0) 1 rfl Try.underlying33 info5 rfl (by decide) (by omega) v477 y476 0 [.int .u8 0] (fun k_ => some k_ ≠ (.slice Ao40 t437.length co40 : Value).ownBlock) (fun _ => False) rfl rfl ?aP (fun _ hk => hk.elim) ?aF ?aO ?aB ?aS ?aL ?_; (case aP => exact rfl); (case aB => exact (bS HB.out)); (case aF => exact (fun k_ hk => Kd.fresh' (Kd.R_lt (rA HO439.out)) k_ hk)); (case aO => exact (rA HO478.out)); (case aS => exact (below_size (bS HB.out))); (case aL => have := LMc15.out; omega); intro v480 w59 ho hb hg hat; rw [← Ny479.out] at ho; have _ := aM (Kd.R_over' (rA HO431.out) (Kd.R_typed (rA HO478.out)) (by decide) hg); have _ := aM (Kd.R_over' (rA HO434.out) (Kd.R_typed (rA HO478.out)) (by decide) hg); have _ := aM (blk_grown (g := gb436) (o := .cells #[.int .i64 t426, .int .i64 t427, .int .i64 t428, .slice Ao33 t429.length co33, .slice Ao34 t432.length co34, .int .i64 t435] 29 (0, 0)) (kA BK436.out) hg (Kd.R_ne HO478.out BK436.out (by decide))); have _ := aM (Kd.R_after (ok := (fun _ => True)) (rA HO439.out) hg hat); have _ := aM (Kd.R_over' (rA HO450.out) (Kd.R_typed (rA HO478.out)) (by decide) hg); have _ := aM (Kd.R_over' (rA HO453.out) (Kd.R_typed (rA HO478.out)) (by decide) hg); have _ := aM (blk_grown (g := gb456) (o := .cells #[.int .i64 t445, .int .i64 t446, .int .i64 t447, .slice Ao45 t448.length co45, .slice Ao46 t451.length co46, .int .i64 t454] 29 (0, 0)) (kA BK456.out) hg (Kd.R_ne HO478.out BK456.out (by decide))); have _ := aM (Kd.R_over' (rA HO466.out) (Kd.R_typed (rA HO478.out)) (by decide) hg); have _ := aM (Kd.R_over' (rA HO469.out) (Kd.R_typed (rA HO478.out)) (by decide) hg); have _ := aM (blk_grown (g := gb472) (o := .cells #[.int .i64 t461, .int .i64 t462, .int .i64 t463, .slice Ao54 t464.length co54, .slice Ao55 t467.length co55, .int .i64 t470] 29 (0, 0)) (kA BK472.out) hg (Kd.R_ne HO478.out BK472.out (by decide))); have _ := aM (hb); have _ := aM ((show Kd.C (Kd.int .u8) w59 Ao40 y457.length y457 from by rw [Ny457.out]; exact Kd.C_take (m := ((ji10) : Int).toNat) ((Kd.R_reads' (Kd.R_after (ok := (fun _ => True)) (rA HO439.out) hg hat)).2.2) KL48.out)); have _ := aM (ho); clear HO431 HO434 BK436 HO439 HO450 HO453 BK456 HO466 HO469 BK472 HB HR460 HO478; rename_i HO431 HO434 BK436 HO439 HO450 HO453 BK456 HO466 HO469 BK472 HB HR460 HO481; clear ho hb hg hat; obtain ⟨Ao60, co60, eo60⟩ := Kd.R_slice HO481.out; subst eo60) | ((with_reducible refine gate_callee (f := 20) rfl ?_); refine gL (some 65) rfl rfl Try.func20 (by kernel_rfl) rfl #[.slice Ao60 y479.length co60] rfl ?_; (with_reducible refine (impl_GetReq.calls k _ _ y479 t482 t483 t484 t485 t488 t491 t492 _ ?side1 ?side2 A16.out).mono ?_); (case side1 => exact cR HO481.out); (case side2 => exact (Kd.R_reads' HO481.out).2.1); rintro e w61 ⟨v486, v489, rfl, ho0, ho1, hb⟩; refine ⟨_, rfl, ?_⟩; have _ := aM (Kd.R_elder' (rA HO431.out) (Kd.R_base ho0) hb); have _ := aM (Kd.R_elder' (rA HO434.out) (Kd.R_base ho1) hb); have _ := aM (rB HO439.out hb); have _ := aM (Kd.R_elder' (rA HO450.out) (Kd.R_base ho0) hb); have _ := aM (Kd.R_elder' (rA HO453.out) (Kd.R_base ho1) hb); have _ := aM (Kd.R_elder' (rA HO466.out) (Kd.R_base ho0) hb); have _ := aM (Kd.R_elder' (rA HO469.out) (Kd.R_base ho1) hb); have _ := aM (rB HO481.out hb); have _ := aM (Kd.R_lower (Kd.R_new' (Kd.R_new' (Kd.R_new' ho0 (Kd.R_lt (rA HO431.out))) (Kd.R_lt (rA HO450.out))) (Kd.R_lt (rA HO466.out))) (below_size (bS HB.out))); have _ := aM (Kd.R_lower (Kd.R_new' (Kd.R_new' (Kd.R_new' ho1 (Kd.R_lt (rA HO434.out))) (Kd.R_lt (rA HO453.out))) (Kd.R_lt (rA HO469.out))) (below_size (bS HB.out))); have _ := aM (kB BK436.out hb); have _ := aM (kB BK456.out hb); have _ := aM (kB BK472.out hb); have _ := aM (Kd.C_below (by repeat (first | (with_reducible exact HR460.out) | (with_reducible refine Kd.C_alloc ?_ _) | (with_reducible refine Kd.C_drewN ?_ _) | (with_reducible refine Kd.C_drew ?_) | exact HR460.out)) hb); have _ := aM (below_step (bS HB.out) hb); clear HO431 HO434 HO439 HO450 HO453 HO466 HO469 HO481 BK436 BK456 BK472 HR460 HB; rename_i HO431 HO434 HO439 HO450 HO453 HO466 HO469 HO481 HO487 HO490 BK436 BK456 BK472 HR460 HB; (try clear hb); (try clear ho0); (try clear ho1)) | ((with_reducible refine gate_dst (N := 12) rfl ?_); refine box_event ?hg (N := 12) ?hd (cs := #[.int .i64 0, .int .i64 0, .int .i64 0, .slice none 0 0, .slice none 0 0, .int .i64 0]) (t := 29) ?hr ?_; (case hd => rfl); (case hg => rfl); (case hr => first | (go_simp; done) | (go_simp; rfl)); intro gb493 hg w62 hbox hb; have _ := aM (rB HO431.out hb); have _ := aM (rB HO434.out hb); have _ := aM (rB HO439.out hb); have _ := aM (rB HO450.out hb); have _ := aM (rB HO453.out hb); have _ := aM (rB HO466.out hb); have _ := aM (rB HO469.out hb); have _ := aM (rB HO481.out hb); have _ := aM (rB HO487.out hb); have _ := aM (rB HO490.out hb); have _ := aM (kB BK436.out hb); have _ := aM (kB BK456.out hb); have _ := aM (kB BK472.out hb); have _ := aM (Kd.C_below (by repeat (first | (with_reducible exact HR460.out) | (with_reducible refine Kd.C_alloc ?_ _) | (with_reducible refine Kd.C_drewN ?_ _) | (with_reducible refine Kd.C_drew ?_) | exact HR460.out)) hb); have _ := aM (below_step (bS HB.out) hb); have _ := aM (hbox); have _ := aM (leG hg (bS HB.out)); have _ := aM (leG hg (bS HB.out)); have _ := aM (neL hg (kA BK436.out)); have _ := aM (neG hg (kA BK436.out)); have _ := aM (neL hg (kA BK456.out)); have _ := aM (neG hg (kA BK456.out)); have _ := aM (neL hg (kA BK472.out)); have _ := aM (neG hg (kA BK472.out)); clear HO431 HO434 HO439 HO450 HO453 HO466 HO469 HO481 HO487 HO490 BK436 BK456 BK472 HR460 HB; rename_i HO431 HO434 HO439 HO450 HO453 HO466 HO469 HO481 HO487 HO490 BK436 BK456 BK472 HR460 HB BK493 GW493 GE493 NB436_493 NB493_436 NB456_493 NB493_456 NB472_493 NB493_472; clear hb hbox hg; have hnb63 := NB493_436.out; have hnc63 := NB436_493.out; have hnb64 := NB493_456.out; have hnc64 := NB456_493.out; have hnb65 := NB493_472.out; have hnc65 := NB472_493.out; obtain ⟨hcz66_0, hfz66_0, hcz66_1, hfz66_1, hcz66_2, hfz66_2, hcz66_3, hfz66_3, hcz66_4, hfz66_4, hcz66_5, hfz66_5⟩ := bk6 BK493.out; obtain ⟨Ao67, co67, eo67⟩ := Kd.R_slice HO487.out; subst eo67; obtain ⟨Ao68, co68, eo68⟩ := Kd.R_slice HO490.out; subst eo68))
  have n0_ : Aside0 (Kd.R (Kd.int .i64) 3 ((((((w62.setCell ⟨gb493, 0, none⟩ (.int .i64 t482)).setCell ⟨gb493, 1, none⟩ (.int .i64 t483)).setCell ⟨gb493, 2, none⟩ (.int .i64 t484)).setCell ⟨gb493, 3, none⟩ (.slice Ao67 t485.length co67)).setCell ⟨gb493, 4, none⟩ (.slice Ao68 t488.length co68)).setCell ⟨gb493, 5, none⟩ (.int .i64 t491)) w.heap.size (fun k_ => some k_ ≠ (.slice Ao45 t448.length co45 : Value).ownBlock ∧ some k_ ≠ (.slice Ao54 t464.length co54 : Value).ownBlock ∧ some k_ ≠ (.slice Ao67 t485.length co67 : Value).ownBlock) (.slice Ao33 t429.length co33) t429) := ⟨by (with_reducible repeat (first | apply Kd.R_alloc | apply Kd.R_drewN | apply Kd.R_drew)); exact Kd.R_mono (Kd.R_far (p := ⟨gb493, 5, none⟩) (Kd.R_far (p := ⟨gb493, 4, none⟩) (Kd.R_far (p := ⟨gb493, 3, none⟩) (Kd.R_far (p := ⟨gb493, 2, none⟩) (Kd.R_far (p := ⟨gb493, 1, none⟩) (Kd.R_far (p := ⟨gb493, 0, none⟩) (Kd.R_types HO431.out BK493.out (by decide)) (fun _ hk => hk.2) (.int .i64 t482)) (fun _ hk => hk.2) (.int .i64 t483)) (fun _ hk => hk.2) (.int .i64 t484)) (fun _ hk => hk.2) (.slice Ao67 t485.length co67)) (fun _ hk => hk.2) (.slice Ao68 t488.length co68)) (fun _ hk => hk.2) (.int .i64 t491)) (fun _ hk => by first | exact ⟨hk.1.1.1, ⟨hk.1.1.2, hk.1.2⟩⟩ | (simp only [ne_eq] at hk ⊢; simp [hk]))⟩
  have n1_ : Aside0 (Kd.R Kd.bool 4 ((((((w62.setCell ⟨gb493, 0, none⟩ (.int .i64 t482)).setCell ⟨gb493, 1, none⟩ (.int .i64 t483)).setCell ⟨gb493, 2, none⟩ (.int .i64 t484)).setCell ⟨gb493, 3, none⟩ (.slice Ao67 t485.length co67)).setCell ⟨gb493, 4, none⟩ (.slice Ao68 t488.length co68)).setCell ⟨gb493, 5, none⟩ (.int .i64 t491)) w.heap.size (fun k_ => some k_ ≠ (.slice Ao46 t451.length co46 : Value).ownBlock ∧ some k_ ≠ (.slice Ao55 t467.length co55 : Value).ownBlock ∧ some k_ ≠ (.slice Ao68 t488.length co68 : Value).ownBlock) (.slice Ao34 t432.length co34) t432) := ⟨by (with_reducible repeat (first | apply Kd.R_alloc | apply Kd.R_drewN | apply Kd.R_drew)); exact Kd.R_mono (Kd.R_far (p := ⟨gb493, 5, none⟩) (Kd.R_far (p := ⟨gb493, 4, none⟩) (Kd.R_far (p := ⟨gb493, 3, none⟩) (Kd.R_far (p := ⟨gb493, 2, none⟩) (Kd.R_far (p := ⟨gb493, 1, none⟩) (Kd.R_far (p := ⟨gb493, 0, none⟩) (Kd.R_types HO434.out BK493.out (by decide)) (fun _ hk => hk.2) (.int .i64 t482)) (fun _ hk => hk.2) (.int .i64 t483)) (fun _ hk => hk.2) (.int .i64 t484)) (fun _ hk => hk.2) (.slice Ao67 t485.length co67)) (fun _ hk => hk.2) (.slice Ao68 t488.length co68)) (fun _ hk => hk.2) (.int .i64 t491)) (fun _ hk => by first | exact ⟨hk.1.1.1, ⟨hk.1.1.2, hk.1.2⟩⟩ | (simp only [ne_eq] at hk ⊢; simp [hk]))⟩
  have n2_ : Aside0 (Kd.R (Kd.int .u8) 5 ((((((w62.setCell ⟨gb493, 0, none⟩ (.int .i64 t482)).setCell ⟨gb493, 1, none⟩ (.int .i64 t483)).setCell ⟨gb493, 2, none⟩ (.int .i64 t484)).setCell ⟨gb493, 3, none⟩ (.slice Ao67 t485.length co67)).setCell ⟨gb493, 4, none⟩ (.slice Ao68 t488.length co68)).setCell ⟨gb493, 5, none⟩ (.int .i64 t491)) w.heap.size (fun k_ => some k_ ≠ (.slice Ao60 y479.length co60 : Value).ownBlock) (.slice Ao40 t437.length co40) t437) := ⟨by (with_reducible repeat (first | apply Kd.R_alloc | apply Kd.R_drewN | apply Kd.R_drew)); exact Kd.R_mono (Kd.R_far (p := ⟨gb493, 5, none⟩) (Kd.R_far (p := ⟨gb493, 4, none⟩) (Kd.R_far (p := ⟨gb493, 3, none⟩) (Kd.R_far (p := ⟨gb493, 2, none⟩) (Kd.R_far (p := ⟨gb493, 1, none⟩) (Kd.R_far (p := ⟨gb493, 0, none⟩) (Kd.R_types HO439.out BK493.out (by decide)) (fun _ hk => hk.2) (.int .i64 t482)) (fun _ hk => hk.2) (.int .i64 t483)) (fun _ hk => hk.2) (.int .i64 t484)) (fun _ hk => hk.2) (.slice Ao67 t485.length co67)) (fun _ hk => hk.2) (.slice Ao68 t488.length co68)) (fun _ hk => hk.2) (.int .i64 t491)) (fun _ hk => hk.1.2)⟩
  have n3_ : Aside0 (Kd.R (Kd.int .i64) 3 ((((((w62.setCell ⟨gb493, 0, none⟩ (.int .i64 t482)).setCell ⟨gb493, 1, none⟩ (.int .i64 t483)).setCell ⟨gb493, 2, none⟩ (.int .i64 t484)).setCell ⟨gb493, 3, none⟩ (.slice Ao67 t485.length co67)).setCell ⟨gb493, 4, none⟩ (.slice Ao68 t488.length co68)).setCell ⟨gb493, 5, none⟩ (.int .i64 t491)) w.heap.size (fun k_ => some k_ ≠ (.slice Ao33 t429.length co33 : Value).ownBlock ∧ some k_ ≠ (.slice Ao54 t464.length co54 : Value).ownBlock ∧ some k_ ≠ (.slice Ao67 t485.length co67 : Value).ownBlock) (.slice Ao45 t448.length co45) t448) := ⟨by (with_reducible repeat (first | apply Kd.R_alloc | apply Kd.R_drewN | apply Kd.R_drew)); exact Kd.R_mono (Kd.R_far (p := ⟨gb493, 5, none⟩) (Kd.R_far (p := ⟨gb493, 4, none⟩) (Kd.R_far (p := ⟨gb493, 3, none⟩) (Kd.R_far (p := ⟨gb493, 2, none⟩) (Kd.R_far (p := ⟨gb493, 1, none⟩) (Kd.R_far (p := ⟨gb493, 0, none⟩) (Kd.R_types HO450.out BK493.out (by decide)) (fun _ hk => hk.2) (.int .i64 t482)) (fun _ hk => hk.2) (.int .i64 t483)) (fun _ hk => hk.2) (.int .i64 t484)) (fun _ hk => hk.2) (.slice Ao67 t485.length co67)) (fun _ hk => hk.2) (.slice Ao68 t488.length co68)) (fun _ hk => hk.2) (.int .i64 t491)) (fun _ hk => by first | exact ⟨hk.1.1.1, ⟨hk.1.1.2, hk.1.2⟩⟩ | (simp only [ne_eq] at hk ⊢; simp [hk]))⟩
  have n4_ : Aside0 (Kd.R Kd.bool 4 ((((((w62.setCell ⟨gb493, 0, none⟩ (.int .i64 t482)).setCell ⟨gb493, 1, none⟩ (.int .i64 t483)).setCell ⟨gb493, 2, none⟩ (.int .i64 t484)).setCell ⟨gb493, 3, none⟩ (.slice Ao67 t485.length co67)).setCell ⟨gb493, 4, none⟩ (.slice Ao68 t488.length co68)).setCell ⟨gb493, 5, none⟩ (.int .i64 t491)) w.heap.size (fun k_ => some k_ ≠ (.slice Ao34 t432.length co34 : Value).ownBlock ∧ some k_ ≠ (.slice Ao55 t467.length co55 : Value).ownBlock ∧ some k_ ≠ (.slice Ao68 t488.length co68 : Value).ownBlock) (.slice Ao46 t451.length co46) t451) := ⟨by (with_reducible repeat (first | apply Kd.R_alloc | apply Kd.R_drewN | apply Kd.R_drew)); exact Kd.R_mono (Kd.R_far (p := ⟨gb493, 5, none⟩) (Kd.R_far (p := ⟨gb493, 4, none⟩) (Kd.R_far (p := ⟨gb493, 3, none⟩) (Kd.R_far (p := ⟨gb493, 2, none⟩) (Kd.R_far (p := ⟨gb493, 1, none⟩) (Kd.R_far (p := ⟨gb493, 0, none⟩) (Kd.R_types HO453.out BK493.out (by decide)) (fun _ hk => hk.2) (.int .i64 t482)) (fun _ hk => hk.2) (.int .i64 t483)) (fun _ hk => hk.2) (.int .i64 t484)) (fun _ hk => hk.2) (.slice Ao67 t485.length co67)) (fun _ hk => hk.2) (.slice Ao68 t488.length co68)) (fun _ hk => hk.2) (.int .i64 t491)) (fun _ hk => by first | exact ⟨hk.1.1.1, ⟨hk.1.1.2, hk.1.2⟩⟩ | (simp only [ne_eq] at hk ⊢; simp [hk]))⟩
  have n5_ : Aside0 (Kd.R (Kd.int .i64) 3 ((((((w62.setCell ⟨gb493, 0, none⟩ (.int .i64 t482)).setCell ⟨gb493, 1, none⟩ (.int .i64 t483)).setCell ⟨gb493, 2, none⟩ (.int .i64 t484)).setCell ⟨gb493, 3, none⟩ (.slice Ao67 t485.length co67)).setCell ⟨gb493, 4, none⟩ (.slice Ao68 t488.length co68)).setCell ⟨gb493, 5, none⟩ (.int .i64 t491)) w.heap.size (fun k_ => some k_ ≠ (.slice Ao33 t429.length co33 : Value).ownBlock ∧ some k_ ≠ (.slice Ao45 t448.length co45 : Value).ownBlock ∧ some k_ ≠ (.slice Ao67 t485.length co67 : Value).ownBlock) (.slice Ao54 t464.length co54) t464) := ⟨by (with_reducible repeat (first | apply Kd.R_alloc | apply Kd.R_drewN | apply Kd.R_drew)); exact Kd.R_mono (Kd.R_far (p := ⟨gb493, 5, none⟩) (Kd.R_far (p := ⟨gb493, 4, none⟩) (Kd.R_far (p := ⟨gb493, 3, none⟩) (Kd.R_far (p := ⟨gb493, 2, none⟩) (Kd.R_far (p := ⟨gb493, 1, none⟩) (Kd.R_far (p := ⟨gb493, 0, none⟩) (Kd.R_types HO466.out BK493.out (by decide)) (fun _ hk => hk.2) (.int .i64 t482)) (fun _ hk => hk.2) (.int .i64 t483)) (fun _ hk => hk.2) (.int .i64 t484)) (fun _ hk => hk.2) (.slice Ao67 t485.length co67)) (fun _ hk => hk.2) (.slice Ao68 t488.length co68)) (fun _ hk => hk.2) (.int .i64 t491)) (fun _ hk => by first | exact ⟨hk.1.1.1.2, ⟨hk.1.1.2, hk.1.2⟩⟩ | (simp only [ne_eq] at hk ⊢; simp [hk]))⟩
  have n6_ : Aside0 (Kd.R Kd.bool 4 ((((((w62.setCell ⟨gb493, 0, none⟩ (.int .i64 t482)).setCell ⟨gb493, 1, none⟩ (.int .i64 t483)).setCell ⟨gb493, 2, none⟩ (.int .i64 t484)).setCell ⟨gb493, 3, none⟩ (.slice Ao67 t485.length co67)).setCell ⟨gb493, 4, none⟩ (.slice Ao68 t488.length co68)).setCell ⟨gb493, 5, none⟩ (.int .i64 t491)) w.heap.size (fun k_ => some k_ ≠ (.slice Ao34 t432.length co34 : Value).ownBlock ∧ some k_ ≠ (.slice Ao46 t451.length co46 : Value).ownBlock ∧ some k_ ≠ (.slice Ao68 t488.length co68 : Value).ownBlock) (.slice Ao55 t467.length co55) t467) := ⟨by (with_reducible repeat (first | apply Kd.R_alloc | apply Kd.R_drewN | apply Kd.R_drew)); exact Kd.R_mono (Kd.R_far (p := ⟨gb493, 5, none⟩) (Kd.R_far (p := ⟨gb493, 4, none⟩) (Kd.R_far (p := ⟨gb493, 3, none⟩) (Kd.R_far (p := ⟨gb493, 2, none⟩) (Kd.R_far (p := ⟨gb493, 1, none⟩) (Kd.R_far (p := ⟨gb493, 0, none⟩) (Kd.R_types HO469.out BK493.out (by decide)) (fun _ hk => hk.2) (.int .i64 t482)) (fun _ hk => hk.2) (.int .i64 t483)) (fun _ hk => hk.2) (.int .i64 t484)) (fun _ hk => hk.2) (.slice Ao67 t485.length co67)) (fun _ hk => hk.2) (.slice Ao68 t488.length co68)) (fun _ hk => hk.2) (.int .i64 t491)) (fun _ hk => by first | exact ⟨hk.1.1.1.2, ⟨hk.1.1.2, hk.1.2⟩⟩ | (simp only [ne_eq] at hk ⊢; simp [hk]))⟩
  have n7_ : Aside0 (Kd.R (Kd.int .u8) 5 ((((((w62.setCell ⟨gb493, 0, none⟩ (.int .i64 t482)).setCell ⟨gb493, 1, none⟩ (.int .i64 t483)).setCell ⟨gb493, 2, none⟩ (.int .i64 t484)).setCell ⟨gb493, 3, none⟩ (.slice Ao67 t485.length co67)).setCell ⟨gb493, 4, none⟩ (.slice Ao68 t488.length co68)).setCell ⟨gb493, 5, none⟩ (.int .i64 t491)) w.heap.size (fun k_ => some k_ ≠ (.slice Ao40 t437.length co40 : Value).ownBlock) (.slice Ao60 y479.length co60) y479) := ⟨by (with_reducible repeat (first | apply Kd.R_alloc | apply Kd.R_drewN | apply Kd.R_drew)); exact Kd.R_mono (Kd.R_far (p := ⟨gb493, 5, none⟩) (Kd.R_far (p := ⟨gb493, 4, none⟩) (Kd.R_far (p := ⟨gb493, 3, none⟩) (Kd.R_far (p := ⟨gb493, 2, none⟩) (Kd.R_far (p := ⟨gb493, 1, none⟩) (Kd.R_far (p := ⟨gb493, 0, none⟩) (Kd.R_types HO481.out BK493.out (by decide)) (fun _ hk => hk.2) (.int .i64 t482)) (fun _ hk => hk.2) (.int .i64 t483)) (fun _ hk => hk.2) (.int .i64 t484)) (fun _ hk => hk.2) (.slice Ao67 t485.length co67)) (fun _ hk => hk.2) (.slice Ao68 t488.length co68)) (fun _ hk => hk.2) (.int .i64 t491)) (fun _ hk => hk.1)⟩
  have n8_ : Aside0 (Kd.R (Kd.int .i64) 3 ((((((w62.setCell ⟨gb493, 0, none⟩ (.int .i64 t482)).setCell ⟨gb493, 1, none⟩ (.int .i64 t483)).setCell ⟨gb493, 2, none⟩ (.int .i64 t484)).setCell ⟨gb493, 3, none⟩ (.slice Ao67 t485.length co67)).setCell ⟨gb493, 4, none⟩ (.slice Ao68 t488.length co68)).setCell ⟨gb493, 5, none⟩ (.int .i64 t491)) w.heap.size (fun k_ => some k_ ≠ (.slice Ao33 t429.length co33 : Value).ownBlock ∧ some k_ ≠ (.slice Ao45 t448.length co45 : Value).ownBlock ∧ some k_ ≠ (.slice Ao54 t464.length co54 : Value).ownBlock) (.slice Ao67 t485.length co67) t485) := ⟨by (with_reducible repeat (first | apply Kd.R_alloc | apply Kd.R_drewN | apply Kd.R_drew)); exact Kd.R_mono (Kd.R_far (p := ⟨gb493, 5, none⟩) (Kd.R_far (p := ⟨gb493, 4, none⟩) (Kd.R_far (p := ⟨gb493, 3, none⟩) (Kd.R_far (p := ⟨gb493, 2, none⟩) (Kd.R_far (p := ⟨gb493, 1, none⟩) (Kd.R_far (p := ⟨gb493, 0, none⟩) (Kd.R_types HO487.out BK493.out (by decide)) (fun _ hk => hk.2) (.int .i64 t482)) (fun _ hk => hk.2) (.int .i64 t483)) (fun _ hk => hk.2) (.int .i64 t484)) (fun _ hk => hk.2) (.slice Ao67 t485.length co67)) (fun _ hk => hk.2) (.slice Ao68 t488.length co68)) (fun _ hk => hk.2) (.int .i64 t491)) (fun _ hk => by first | exact ⟨hk.1.1.1.2, ⟨hk.1.1.2, hk.1.2⟩⟩ | (simp only [ne_eq] at hk ⊢; simp [hk]))⟩
  have n9_ : Aside0 (Kd.R Kd.bool 4 ((((((w62.setCell ⟨gb493, 0, none⟩ (.int .i64 t482)).setCell ⟨gb493, 1, none⟩ (.int .i64 t483)).setCell ⟨gb493, 2, none⟩ (.int .i64 t484)).setCell ⟨gb493, 3, none⟩ (.slice Ao67 t485.length co67)).setCell ⟨gb493, 4, none⟩ (.slice Ao68 t488.length co68)).setCell ⟨gb493, 5, none⟩ (.int .i64 t491)) w.heap.size (fun k_ => some k_ ≠ (.slice Ao34 t432.length co34 : Value).ownBlock ∧ some k_ ≠ (.slice Ao46 t451.length co46 : Value).ownBlock ∧ some k_ ≠ (.slice Ao55 t467.length co55 : Value).ownBlock) (.slice Ao68 t488.length co68) t488) := ⟨by (with_reducible repeat (first | apply Kd.R_alloc | apply Kd.R_drewN | apply Kd.R_drew)); exact Kd.R_mono (Kd.R_far (p := ⟨gb493, 5, none⟩) (Kd.R_far (p := ⟨gb493, 4, none⟩) (Kd.R_far (p := ⟨gb493, 3, none⟩) (Kd.R_far (p := ⟨gb493, 2, none⟩) (Kd.R_far (p := ⟨gb493, 1, none⟩) (Kd.R_far (p := ⟨gb493, 0, none⟩) (Kd.R_types HO490.out BK493.out (by decide)) (fun _ hk => hk.2) (.int .i64 t482)) (fun _ hk => hk.2) (.int .i64 t483)) (fun _ hk => hk.2) (.int .i64 t484)) (fun _ hk => hk.2) (.slice Ao67 t485.length co67)) (fun _ hk => hk.2) (.slice Ao68 t488.length co68)) (fun _ hk => hk.2) (.int .i64 t491)) (fun _ hk => by first | exact ⟨hk.1.1.1.2, ⟨hk.1.1.2, hk.1.2⟩⟩ | (simp only [ne_eq] at hk ⊢; simp [hk]))⟩
  have n10_ : Aside0 (((((((w62.setCell ⟨gb493, 0, none⟩ (.int .i64 t482)).setCell ⟨gb493, 1, none⟩ (.int .i64 t483)).setCell ⟨gb493, 2, none⟩ (.int .i64 t484)).setCell ⟨gb493, 3, none⟩ (.slice Ao67 t485.length co67)).setCell ⟨gb493, 4, none⟩ (.slice Ao68 t488.length co68)).setCell ⟨gb493, 5, none⟩ (.int .i64 t491)).heap[gb436]? = some (.cells #[.int .i64 t426, .int .i64 t427, .int .i64 t428, .slice Ao33 t429.length co33, .slice Ao34 t432.length co34, .int .i64 t435] 29 (0, 0))) := ⟨by (with_reducible repeat (first | refine blk_drewN ?_ _ | refine blk_drew ?_ | refine blk_alloc ?_ _)); refine blk_far ?_ NB436_493.out _; (with_reducible repeat (first | refine blk_drewN ?_ _ | refine blk_drew ?_ | refine blk_alloc ?_ _)); refine blk_far ?_ NB436_493.out _; (with_reducible repeat (first | refine blk_drewN ?_ _ | refine blk_drew ?_ | refine blk_alloc ?_ _)); refine blk_far ?_ NB436_493.out _; (with_reducible repeat (first | refine blk_drewN ?_ _ | refine blk_drew ?_ | refine blk_alloc ?_ _)); refine blk_far ?_ NB436_493.out _; (with_reducible repeat (first | refine blk_drewN ?_ _ | refine blk_drew ?_ | refine blk_alloc ?_ _)); refine blk_far ?_ NB436_493.out _; (with_reducible repeat (first | refine blk_drewN ?_ _ | refine blk_drew ?_ | refine blk_alloc ?_ _)); refine blk_far ?_ NB436_493.out _; (with_reducible repeat (first | refine blk_drewN ?_ _ | refine blk_drew ?_ | refine blk_alloc ?_ _)); exact BK436.out⟩
  have n11_ : Aside0 (((((((w62.setCell ⟨gb493, 0, none⟩ (.int .i64 t482)).setCell ⟨gb493, 1, none⟩ (.int .i64 t483)).setCell ⟨gb493, 2, none⟩ (.int .i64 t484)).setCell ⟨gb493, 3, none⟩ (.slice Ao67 t485.length co67)).setCell ⟨gb493, 4, none⟩ (.slice Ao68 t488.length co68)).setCell ⟨gb493, 5, none⟩ (.int .i64 t491)).heap[gb456]? = some (.cells #[.int .i64 t445, .int .i64 t446, .int .i64 t447, .slice Ao45 t448.length co45, .slice Ao46 t451.length co46, .int .i64 t454] 29 (0, 0))) := ⟨by (with_reducible repeat (first | refine blk_drewN ?_ _ | refine blk_drew ?_ | refine blk_alloc ?_ _)); refine blk_far ?_ NB456_493.out _; (with_reducible repeat (first | refine blk_drewN ?_ _ | refine blk_drew ?_ | refine blk_alloc ?_ _)); refine blk_far ?_ NB456_493.out _; (with_reducible repeat (first | refine blk_drewN ?_ _ | refine blk_drew ?_ | refine blk_alloc ?_ _)); refine blk_far ?_ NB456_493.out _; (with_reducible repeat (first | refine blk_drewN ?_ _ | refine blk_drew ?_ | refine blk_alloc ?_ _)); refine blk_far ?_ NB456_493.out _; (with_reducible repeat (first | refine blk_drewN ?_ _ | refine blk_drew ?_ | refine blk_alloc ?_ _)); refine blk_far ?_ NB456_493.out _; (with_reducible repeat (first | refine blk_drewN ?_ _ | refine blk_drew ?_ | refine blk_alloc ?_ _)); refine blk_far ?_ NB456_493.out _; (with_reducible repeat (first | refine blk_drewN ?_ _ | refine blk_drew ?_ | refine blk_alloc ?_ _)); exact BK456.out⟩
  have n12_ : Aside0 (((((((w62.setCell ⟨gb493, 0, none⟩ (.int .i64 t482)).setCell ⟨gb493, 1, none⟩ (.int .i64 t483)).setCell ⟨gb493, 2, none⟩ (.int .i64 t484)).setCell ⟨gb493, 3, none⟩ (.slice Ao67 t485.length co67)).setCell ⟨gb493, 4, none⟩ (.slice Ao68 t488.length co68)).setCell ⟨gb493, 5, none⟩ (.int .i64 t491)).heap[gb472]? = some (.cells #[.int .i64 t461, .int .i64 t462, .int .i64 t463, .slice Ao54 t464.length co54, .slice Ao55 t467.length co55, .int .i64 t470] 29 (0, 0))) := ⟨by (with_reducible repeat (first | refine blk_drewN ?_ _ | refine blk_drew ?_ | refine blk_alloc ?_ _)); refine blk_far ?_ NB472_493.out _; (with_reducible repeat (first | refine blk_drewN ?_ _ | refine blk_drew ?_ | refine blk_alloc ?_ _)); refine blk_far ?_ NB472_493.out _; (with_reducible repeat (first | refine blk_drewN ?_ _ | refine blk_drew ?_ | refine blk_alloc ?_ _)); refine blk_far ?_ NB472_493.out _; (with_reducible repeat (first | refine blk_drewN ?_ _ | refine blk_drew ?_ | refine blk_alloc ?_ _)); refine blk_far ?_ NB472_493.out _; (with_reducible repeat (first | refine blk_drewN ?_ _ | refine blk_drew ?_ | refine blk_alloc ?_ _)); refine blk_far ?_ NB472_493.out _; (with_reducible repeat (first | refine blk_drewN ?_ _ | refine blk_drew ?_ | refine blk_alloc ?_ _)); refine blk_far ?_ NB472_493.out _; (with_reducible repeat (first | refine blk_drewN ?_ _ | refine blk_drew ?_ | refine blk_alloc ?_ _)); exact BK472.out⟩
  have n13_ : Aside0 (((((((w62.setCell ⟨gb493, 0, none⟩ (.int .i64 t482)).setCell ⟨gb493, 1, none⟩ (.int .i64 t483)).setCell ⟨gb493, 2, none⟩ (.int .i64 t484)).setCell ⟨gb493, 3, none⟩ (.slice Ao67 t485.length co67)).setCell ⟨gb493, 4, none⟩ (.slice Ao68 t488.length co68)).setCell ⟨gb493, 5, none⟩ (.int .i64 t491)).heap[gb493]? = some (.cells #[.int .i64 t482, .int .i64 t483, .int .i64 t484, .slice Ao67 t485.length co67, .slice Ao68 t488.length co68, .int .i64 t491] 29 (0, 0))) := ⟨by (with_reducible repeat (first | refine blk_drewN ?_ _ | refine blk_drew ?_ | refine blk_alloc ?_ _)); refine blk_put (cs := #[.int .i64 t482, .int .i64 t483, .int .i64 t484, .slice Ao67 t485.length co67, .slice Ao68 t488.length co68, .int .i64 0]) ?_ 5 _ rfl; (with_reducible repeat (first | refine blk_drewN ?_ _ | refine blk_drew ?_ | refine blk_alloc ?_ _)); refine blk_put (cs := #[.int .i64 t482, .int .i64 t483, .int .i64 t484, .slice Ao67 t485.length co67, .slice none 0 0, .int .i64 0]) ?_ 4 _ rfl; (with_reducible repeat (first | refine blk_drewN ?_ _ | refine blk_drew ?_ | refine blk_alloc ?_ _)); refine blk_put (cs := #[.int .i64 t482, .int .i64 t483, .int .i64 t484, .slice none 0 0, .slice none 0 0, .int .i64 0]) ?_ 3 _ rfl; (with_reducible repeat (first | refine blk_drewN ?_ _ | refine blk_drew ?_ | refine blk_alloc ?_ _)); refine blk_put (cs := #[.int .i64 t482, .int .i64 t483, .int .i64 0, .slice none 0 0, .slice none 0 0, .int .i64 0]) ?_ 2 _ rfl; (with_reducible repeat (first | refine blk_drewN ?_ _ | refine blk_drew ?_ | refine blk_alloc ?_ _)); refine blk_put (cs := #[.int .i64 t482, .int .i64 0, .int .i64 0, .slice none 0 0, .slice none 0 0, .int .i64 0]) ?_ 1 _ rfl; (with_reducible repeat (first | refine blk_drewN ?_ _ | refine blk_drew ?_ | refine blk_alloc ?_ _)); refine blk_put (cs := #[.int .i64 0, .int .i64 0, .int .i64 0, .slice none 0 0, .slice none 0 0, .int .i64 0]) ?_ 0 _ rfl; (with_reducible repeat (first | refine blk_drewN ?_ _ | refine blk_drew ?_ | refine blk_alloc ?_ _)); exact BK493.out⟩
  have n14_ : Aside0 (Below w.heap.size w ((((((w62.setCell ⟨gb493, 0, none⟩ (.int .i64 t482)).setCell ⟨gb493, 1, none⟩ (.int .i64 t483)).setCell ⟨gb493, 2, none⟩ (.int .i64 t484)).setCell ⟨gb493, 3, none⟩ (.slice Ao67 t485.length co67)).setCell ⟨gb493, 4, none⟩ (.slice Ao68 t488.length co68)).setCell ⟨gb493, 5, none⟩ (.int .i64 t491))) := ⟨bS HB.out⟩
  (try clear HO431)
  (try clear HO434)
  (try clear HO439)
  (try clear HO450)
  (try clear HO453)
  (try clear HO466)
  (try clear HO469)
  (try clear HO481)
  (try clear HO487)
  (try clear HO490)
  (try clear BK436)
  (try clear BK456)
  (try clear BK472)
  (try clear BK493)
  (try clear HB)
  generalize ((((((w62.setCell ⟨gb493, 0, none⟩ (.int .i64 t482)).setCell ⟨gb493, 1, none⟩ (.int .i64 t483)).setCell ⟨gb493, 2, none⟩ (.int .i64 t484)).setCell ⟨gb493, 3, none⟩ (.slice Ao67 t485.length co67)).setCell ⟨gb493, 4, none⟩ (.slice Ao68 t488.length co68)).setCell ⟨gb493, 5, none⟩ (.int .i64 t491)) = w69 at n0_ n1_ n2_ n3_ n4_ n5_ n6_ n7_ n8_ n9_ n10_ n11_ n12_ n13_ n14_ ⊢
  have HO431 := n0_
  have HO434 := n1_
  have HO439 := n2_
  have HO450 := n3_
  have HO453 := n4_
  have HO466 := n5_
  have HO469 := n6_
  have HO481 := n7_
  have HO487 := n8_
  have HO490 := n9_
  have BK436 := n10_
  have BK456 := n11_
  have BK472 := n12_
  have BK493 := n13_
  have HB := n14_
  clear n0_ n1_ n2_ n3_ n4_ n5_ n6_ n7_ n8_ n9_ n10_ n11_ n12_ n13_ n14_
  have n0_ := aM (Kd.R_drew HO431.out)
  have n1_ := aM (Kd.R_drew HO434.out)
  have n2_ := aM (Kd.R_drew HO439.out)
  have n3_ := aM (Kd.R_drew HO450.out)
  have n4_ := aM (Kd.R_drew HO453.out)
  have n5_ := aM (Kd.R_drew HO466.out)
  have n6_ := aM (Kd.R_drew HO469.out)
  have n7_ := aM (Kd.R_drew HO481.out)
  have n8_ := aM (Kd.R_drew HO487.out)
  have n9_ := aM (Kd.R_drew HO490.out)
  have n10_ := aM (blk_drew BK436.out)
  have n11_ := aM (blk_drew BK456.out)
  have n12_ := aM (blk_drew BK472.out)
  have n13_ := aM (blk_drew BK493.out)
  have n14_ := aM (below_drew1 HB.out)
  clear HO431
  clear HO434
  clear HO439
  clear HO450
  clear HO453
  clear HO466
  clear HO469
  clear HO481
  clear HO487
  clear HO490
  clear BK436
  clear BK456
  clear BK472
  clear BK493
  clear HB
  have HO431 := n0_
  have HO434 := n1_
  have HO439 := n2_
  have HO450 := n3_
  have HO453 := n4_
  have HO466 := n5_
  have HO469 := n6_
  have HO481 := n7_
  have HO487 := n8_
  have HO490 := n9_
  have BK436 := n10_
  have BK456 := n11_
  have BK472 := n12_
  have BK493 := n13_
  have HB := n14_
  clear n0_ n1_ n2_ n3_ n4_ n5_ n6_ n7_ n8_ n9_ n10_ n11_ n12_ n13_ n14_
  by_cases c17 : t455 = 0
  rotate_left
  ·rw [if_neg c17] at H
   have c17b0 : (t455 == 0) = false := beq_eq_false_iff_ne.mpr c17
   have c17b1 : (t455 != 0) = true := bne_iff_ne.mpr c17
   obtain rfl := Option.some.inj H
   refine start_ (n := 52) (S := fun w' => True) (ds := []) laws_FnAsked.y0 (by kernel_rfl) rfl rfl trivial (fun hHeld => ?_); refine with_tabW laws_FnAsked.tab11 laws_FnAsked.bits11 (fun HT_ HW_ => ?_)
   generalize w69.drew = w498 at HO431 HO434 HO439 HO450 HO453 HO466 HO469 HO481 HO487 HO490 BK436 BK456 BK472 BK493 HB hHeld ⊢
   (try rw [c17b0])
   (try rw [c17b1])
   refine pU (i := 0) (N := some 68) laws_FnAsked.y1 HT_ ?_
   refine pU (i := 1) (N := some 69) laws_FnAsked.y2 HT_ ?_
   refine pU (i := 2) (N := some 70) laws_FnAsked.y3 HT_ ?_
   refine pN (i := 3) (N := some 71) laws_FnAsked.y4 HT_ ?_
   refine pN (i := 4) (N := some 72) laws_FnAsked.y5 HT_ ?_
   refine pN (i := 5) (N := some 73) laws_FnAsked.y6 HT_ ?_
   refine pU (i := 6) (N := some 74) laws_FnAsked.y7 HT_ ?_
   refine pU (i := 7) (N := some 75) laws_FnAsked.y8 HT_ ?_
   refine pN (i := 8) (N := some 76) laws_FnAsked.y9 HT_ ?_
   refine pN (i := 9) (N := some 77) laws_FnAsked.y10 HT_ ?_
   refine pU (i := 10) (N := some 78) laws_FnAsked.y11 HT_ ?_
   refine pU (i := 11) (N := some 79) laws_FnAsked.y12 HT_ ?_
   refine pN (i := 12) (N := some 80) laws_FnAsked.y13 HT_ ?_
   refine pN (i := 13) (N := some 81) laws_FnAsked.y14 HT_ ?_
   refine pU (i := 14) (N := some 82) laws_FnAsked.y15 HT_ ?_
   refine pU (i := 15) (N := some 83) laws_FnAsked.y16 HT_ ?_
   refine pN (i := 16) (N := some 84) laws_FnAsked.y17 HT_ ?_
   refine pN (i := 17) (N := some 85) laws_FnAsked.y18 HT_ ?_
   refine pU (i := 18) (N := some 86) laws_FnAsked.y19 HT_ ?_
   refine pU (i := 19) (N := some 87) laws_FnAsked.y20 HT_ ?_
   refine pN (i := 20) (N := some 88) laws_FnAsked.y21 HT_ ?_
   refine pN (i := 21) (N := some 89) laws_FnAsked.y22 HT_ ?_
   refine pN (i := 22) (N := some 90) laws_FnAsked.y23 HT_ ?_
   refine pN (i := 23) (N := some 91) laws_FnAsked.y24 HT_ ?_
   refine pU (i := 24) (N := some 92) laws_FnAsked.y25 HT_ ?_
   refine pU (i := 25) (N := some 93) laws_FnAsked.y26 HT_ ?_
   refine pN (i := 26) (N := some 94) laws_FnAsked.y27 HT_ ?_
   refine pN (i := 27) (N := some 95) laws_FnAsked.y28 HT_ ?_
   refine pU (i := 28) (N := some 96) laws_FnAsked.y29 HT_ ?_
   refine pU (i := 29) (N := some 97) laws_FnAsked.y30 HT_ ?_
   refine pN (i := 30) (N := some 98) laws_FnAsked.y31 HT_ ?_
   refine pN (i := 31) (N := some 99) laws_FnAsked.y32 HT_ ?_
   refine pN (i := 32) (N := some 100) laws_FnAsked.y33 HT_ ?_
   refine pN (i := 33) (N := some 101) laws_FnAsked.y34 HT_ ?_
   refine pU (i := 34) (N := some 102) laws_FnAsked.y35 HT_ ?_
   refine pU (i := 35) (N := some 103) laws_FnAsked.y36 HT_ ?_
   refine pN (i := 36) (N := some 104) laws_FnAsked.y37 HT_ ?_
   refine pN (i := 37) (N := some 105) laws_FnAsked.y38 HT_ ?_
   refine pU (i := 38) (N := some 106) laws_FnAsked.y39 HT_ ?_
   refine pU (i := 39) (N := some 107) laws_FnAsked.y40 HT_ ?_
   refine pN (i := 40) (N := some 108) laws_FnAsked.y41 HT_ ?_
   refine pN (i := 41) (N := some 109) laws_FnAsked.y42 HT_ ?_
   refine pU (i := 42) (N := some 110) laws_FnAsked.y43 HT_ ?_
   refine pU (i := 43) (N := some 111) laws_FnAsked.y44 HT_ ?_
   refine pN (i := 44) (N := some 112) laws_FnAsked.y49 HT_ ?_
   refine pN (i := 45) (N := some 113) laws_FnAsked.y50 HT_ ?_
   refine pN (i := 46) (N := some 114) laws_FnAsked.y51 HT_ ?_
   refine pN (i := 47) (N := some 115) laws_FnAsked.y52 HT_ ?_
   refine pN (i := 48) (N := some 116) laws_FnAsked.y45 HT_ ?_
   refine pN (i := 49) (N := some 117) laws_FnAsked.y46 HT_ ?_
   refine pU (i := 50) (N := some 118) laws_FnAsked.y47 HT_ ?_
   refine pU (i := 51) (N := some 2) laws_FnAsked.y48 HT_ ?_
   refine done_ (done_of HT_.out (by kernel_rfl)) ?_
   try go_wp2
   go_ret
   exact ⟨by first | rfl | (simp [errW_none, errW_some] <;> rfl) | (simp only [← hji10]; first | rfl | (simp [errW_none, errW_some] <;> rfl)) | (simp [*, errW_none, errW_some] <;> rfl), bS HB.out⟩
  rw [if_pos c17] at H
  have c17b0 : (t455 == 0) = true := beq_iff_eq.mpr c17
  have c17b1 : (t455 != 0) = false := bne_eq_false_iff_eq.mpr c17
  clear c17
  replace H := Option.bind_eq_some_iff.mp H
  obtain ⟨t494, A180, H⟩ := H
  (try dsimp only at H)
  have A18 := aM A180
  clear A180
  refine start_ (n := 52) (S := fun w' => w'.cell? ⟨gb456, 0, none⟩ = some (.int .i64 t445) ∧ w'.cell? ⟨gb456, 1, none⟩ = some (.int .i64 t446) ∧ w'.cell? ⟨gb456, 2, none⟩ = some (.int .i64 t447) ∧ w'.cell? ⟨gb456, 3, none⟩ = some (.slice Ao45 t448.length co45) ∧ w'.cell? ⟨gb456, 4, none⟩ = some (.slice Ao46 t451.length co46) ∧ w'.cell? ⟨gb456, 5, none⟩ = some (.int .i64 t454) ∧ w'.cell? ⟨gb436, 0, none⟩ = some (.int .i64 t426) ∧ w'.cell? ⟨gb436, 1, none⟩ = some (.int .i64 t427) ∧ w'.cell? ⟨gb436, 2, none⟩ = some (.int .i64 t428) ∧ w'.cell? ⟨gb436, 3, none⟩ = some (.slice Ao33 t429.length co33) ∧ w'.cell? ⟨gb436, 4, none⟩ = some (.slice Ao34 t432.length co34) ∧ w'.cell? ⟨gb436, 5, none⟩ = some (.int .i64 t435)) (ds := []) laws_FnAsked.y0 (by kernel_rfl) rfl rfl ⟨(blk_cell BK456.out 0).trans rfl, (blk_cell BK456.out 1).trans rfl, (blk_cell BK456.out 2).trans rfl, (blk_cell BK456.out 3).trans rfl, (blk_cell BK456.out 4).trans rfl, (blk_cell BK456.out 5).trans rfl, (blk_cell BK436.out 0).trans rfl, (blk_cell BK436.out 1).trans rfl, (blk_cell BK436.out 2).trans rfl, (blk_cell BK436.out 3).trans rfl, (blk_cell BK436.out 4).trans rfl, (blk_cell BK436.out 5).trans rfl⟩ (fun hHeld => ?_); refine with_tabW laws_FnAsked.tab11 laws_FnAsked.bits11 (fun HT_ HW_ => ?_)
  generalize w69.drew = w70 at HO431 HO434 HO439 HO450 HO453 HO466 HO469 HO481 HO487 HO490 BK436 BK456 BK472 BK493 HB hHeld ⊢
  refine pU (i := 0) (N := some 68) laws_FnAsked.y1 HT_ ?_
  refine pU (i := 1) (N := some 69) laws_FnAsked.y2 HT_ ?_
  refine pU (i := 2) (N := some 70) laws_FnAsked.y3 HT_ ?_
  refine take_ (i := 3) (N := some 71) (v := ?_) (a' := ?_) laws_FnAsked.y4 rfl rfl (take_ofW HT_.out HW_.out (by kernel_rfl)) (fun _ _ _ h => h) (Or.inl ⟨by rfl, ?_⟩) hHeld ?_ ?_
  rotate_left
  ·rintro w' ⟨s0, s1, s2, s3, s4, s5, s6, s7, s8, s9, s10, s11⟩
   go_simp
   with_reducible rfl
  rotate_left
  ·simp only [Act.put, List.setIfInBounds_toArray, List.set_cons_zero, List.set_cons_succ, i64_w, i32_w]
   rfl
  refine take_ (i := 4) (N := some 72) (v := ?_) (a' := ?_) laws_FnAsked.y5 rfl rfl (take_ofW HT_.out HW_.out (by kernel_rfl)) (fun _ _ _ h => h) (Or.inl ⟨by rfl, ?_⟩) hHeld ?_ ?_
  rotate_left
  ·rintro w' ⟨s0, s1, s2, s3, s4, s5, s6, s7, s8, s9, s10, s11⟩
   go_simp
   with_reducible rfl
  rotate_left
  ·simp only [Act.put, List.setIfInBounds_toArray, List.set_cons_zero, List.set_cons_succ, i64_w, i32_w]
   rfl
  by_cases c19 : t494 = true
  rotate_left
  ·replace c19 := Bool.eq_false_iff.mpr c19
   subst c19
   rw [if_neg (show ¬ (false = true) by decide)] at H
   (try dsimp only at H)
   obtain rfl := Option.some.inj H
   refine one_ (i := 5) (N := some 73) laws_FnAsked.y6 rfl rfl (one_of HT_.out (by kernel_rfl)) (by decide) (fun K hK => ?_)
   refine goes_ Try.func26 (by kernel_rfl) rfl #[.agg #[.int .i64 t445, .int .i64 t446, .int .i64 t447, .slice Ao45 t448.length co45, .slice Ao46 t451.length co46, .int .i64 t454], .agg #[.int .i64 t426, .int .i64 t427, .int .i64 t428, .slice Ao33 t429.length co33, .slice Ao34 t432.length co34, .int .i64 t435]] (by rfl) rfl rfl (by (try simp only [List.map_toArray, List.map_cons, List.map_nil]); first | done | rfl | (simp only [List.length_drop, List.length_take]; rfl)) ?_
   with_reducible refine (laws_sameReq.calls k t445 t446 t447 _ _ t448 _ _ t451 t454 t426 t427 t428 _ _ t429 _ _ t432 t435 false _ ?side1 ?side2 ?side3 ?side4 ?side5 ?side6 ?side7 ?side8 A18.out).mono ?_
   (case side1 => exact cR HO450.out)
   (case side2 => exact (Kd.R_reads' HO450.out).2.1)
   (case side3 => exact cR HO453.out)
   (case side4 => exact (Kd.R_reads' HO453.out).2.1)
   (case side5 => exact cR HO431.out)
   (case side6 => exact (Kd.R_reads' HO431.out).2.1)
   (case side7 => exact cR HO434.out)
   (case side8 => exact (Kd.R_reads' HO434.out).2.1)
   rintro e w457 ⟨rfl, hb⟩
   refine ⟨_, rfl, ?_⟩
   have n0_ := aM (rB HO431.out hb)
   have n1_ := aM (rB HO434.out hb)
   have n2_ := aM (rB HO439.out hb)
   have n3_ := aM (rB HO450.out hb)
   have n4_ := aM (rB HO453.out hb)
   have n5_ := aM (rB HO466.out hb)
   have n6_ := aM (rB HO469.out hb)
   have n7_ := aM (rB HO481.out hb)
   have n8_ := aM (rB HO487.out hb)
   have n9_ := aM (rB HO490.out hb)
   have n10_ := aM (kB BK436.out hb)
   have n11_ := aM (kB BK456.out hb)
   have n12_ := aM (kB BK472.out hb)
   have n13_ := aM (kB BK493.out hb)
   have n14_ := aM (below_step (bS HB.out) hb)
   clear HO431
   clear HO434
   clear HO439
   clear HO450
   clear HO453
   clear HO466
   clear HO469
   clear HO481
   clear HO487
   clear HO490
   clear BK436
   clear BK456
   clear BK472
   clear BK493
   clear HB
   have HO431 := n0_
   have HO434 := n1_
   have HO439 := n2_
   have HO450 := n3_
   have HO453 := n4_
   have HO466 := n5_
   have HO469 := n6_
   have HO481 := n7_
   have HO487 := n8_
   have HO490 := n9_
   have BK436 := n10_
   have BK456 := n11_
   have BK472 := n12_
   have BK493 := n13_
   have HB := n14_
   clear n0_ n1_ n2_ n3_ n4_ n5_ n6_ n7_ n8_ n9_ n10_ n11_ n12_ n13_ n14_
   (try clear hb)
   (try clear hb2)
   (try clear hk)
   (try clear hi)
   refine hK.out _ _ ⟨(blk_cell BK456.out 0).trans rfl, (blk_cell BK456.out 1).trans rfl, (blk_cell BK456.out 2).trans rfl, (blk_cell BK456.out 3).trans rfl, (blk_cell BK456.out 4).trans rfl, (blk_cell BK456.out 5).trans rfl, (blk_cell BK436.out 0).trans rfl, (blk_cell BK436.out 1).trans rfl, (blk_cell BK436.out 2).trans rfl, (blk_cell BK436.out 3).trans rfl, (blk_cell BK436.out 4).trans rfl, (blk_cell BK436.out 5).trans rfl⟩ (fun hHeld => ?_)
   clear hK K
   refine norm_ (a' := ?_) ?_ ?_
   rotate_left
   ·show Act.put _ (some 73) _ = _
    simp only [Act.put, List.setIfInBounds_toArray, List.set_cons_zero, List.set_cons_succ, i64_w, i32_w]
    rfl
   refine pU (i := 6) (N := some 74) laws_FnAsked.y7 HT_ ?_
   refine pU (i := 7) (N := some 75) laws_FnAsked.y8 HT_ ?_
   refine pN (i := 8) (N := some 76) laws_FnAsked.y9 HT_ ?_
   refine pN (i := 9) (N := some 77) laws_FnAsked.y10 HT_ ?_
   refine pU (i := 10) (N := some 78) laws_FnAsked.y11 HT_ ?_
   refine pU (i := 11) (N := some 79) laws_FnAsked.y12 HT_ ?_
   refine pN (i := 12) (N := some 80) laws_FnAsked.y13 HT_ ?_
   refine pN (i := 13) (N := some 81) laws_FnAsked.y14 HT_ ?_
   refine pU (i := 14) (N := some 82) laws_FnAsked.y15 HT_ ?_
   refine pU (i := 15) (N := some 83) laws_FnAsked.y16 HT_ ?_
   refine pN (i := 16) (N := some 84) laws_FnAsked.y17 HT_ ?_
   refine pN (i := 17) (N := some 85) laws_FnAsked.y18 HT_ ?_
   refine pU (i := 18) (N := some 86) laws_FnAsked.y19 HT_ ?_
   refine pU (i := 19) (N := some 87) laws_FnAsked.y20 HT_ ?_
   refine pN (i := 20) (N := some 88) laws_FnAsked.y21 HT_ ?_
   refine pN (i := 21) (N := some 89) laws_FnAsked.y22 HT_ ?_
   refine pN (i := 22) (N := some 90) laws_FnAsked.y23 HT_ ?_
   refine pN (i := 23) (N := some 91) laws_FnAsked.y24 HT_ ?_
   refine pU (i := 24) (N := some 92) laws_FnAsked.y25 HT_ ?_
   refine pU (i := 25) (N := some 93) laws_FnAsked.y26 HT_ ?_
   refine pN (i := 26) (N := some 94) laws_FnAsked.y27 HT_ ?_
   refine pN (i := 27) (N := some 95) laws_FnAsked.y28 HT_ ?_
   refine pU (i := 28) (N := some 96) laws_FnAsked.y29 HT_ ?_
   refine pU (i := 29) (N := some 97) laws_FnAsked.y30 HT_ ?_
   refine pN (i := 30) (N := some 98) laws_FnAsked.y31 HT_ ?_
   refine pN (i := 31) (N := some 99) laws_FnAsked.y32 HT_ ?_
   refine pN (i := 32) (N := some 100) laws_FnAsked.y33 HT_ ?_
   refine pN (i := 33) (N := some 101) laws_FnAsked.y34 HT_ ?_
   refine pU (i := 34) (N := some 102) laws_FnAsked.y35 HT_ ?_
   refine pU (i := 35) (N := some 103) laws_FnAsked.y36 HT_ ?_
   refine pN (i := 36) (N := some 104) laws_FnAsked.y37 HT_ ?_
   refine pN (i := 37) (N := some 105) laws_FnAsked.y38 HT_ ?_
   refine pU (i := 38) (N := some 106) laws_FnAsked.y39 HT_ ?_
   refine pU (i := 39) (N := some 107) laws_FnAsked.y40 HT_ ?_
   refine pN (i := 40) (N := some 108) laws_FnAsked.y41 HT_ ?_
   refine pN (i := 41) (N := some 109) laws_FnAsked.y42 HT_ ?_
   refine pU (i := 42) (N := some 110) laws_FnAsked.y43 HT_ ?_
   refine pU (i := 43) (N := some 111) laws_FnAsked.y44 HT_ ?_
   refine pN (i := 44) (N := some 112) laws_FnAsked.y49 HT_ ?_
   refine pN (i := 45) (N := some 113) laws_FnAsked.y50 HT_ ?_
   refine pN (i := 46) (N := some 114) laws_FnAsked.y51 HT_ ?_
   refine pN (i := 47) (N := some 115) laws_FnAsked.y52 HT_ ?_
   refine pN (i := 48) (N := some 116) laws_FnAsked.y45 HT_ ?_
   refine pN (i := 49) (N := some 117) laws_FnAsked.y46 HT_ ?_
   refine pU (i := 50) (N := some 118) laws_FnAsked.y47 HT_ ?_
   refine pU (i := 51) (N := some 2) laws_FnAsked.y48 HT_ ?_
   refine done_ (done_of HT_.out (by kernel_rfl)) ?_
   try go_wp2
   go_ret
   exact ⟨by first | rfl | (simp [errW_none, errW_some] <;> rfl) | (simp only [← hji10]; first | rfl | (simp [errW_none, errW_some] <;> rfl)) | (simp [*, errW_none, errW_some] <;> rfl), bS HB.out⟩
  subst c19
  rw [if_pos rfl] at H
  (try dsimp only at H)
  refine one_ (i := 5) (N := some 73) laws_FnAsked.y6 rfl rfl (one_of HT_.out (by kernel_rfl)) (by decide) (fun K hK => ?_)
  refine goes_ Try.func26 (by kernel_rfl) rfl #[.agg #[.int .i64 t445, .int .i64 t446, .int .i64 t447, .slice Ao45 t448.length co45, .slice Ao46 t451.length co46, .int .i64 t454], .agg #[.int .i64 t426, .int .i64 t427, .int .i64 t428, .slice Ao33 t429.length co33, .slice Ao34 t432.length co34, .int .i64 t435]] (by rfl) rfl rfl (by (try simp only [List.map_toArray, List.map_cons, List.map_nil]); first | done | rfl | (simp only [List.length_drop, List.length_take]; rfl)) ?_
  with_reducible refine (laws_sameReq.calls k t445 t446 t447 _ _ t448 _ _ t451 t454 t426 t427 t428 _ _ t429 _ _ t432 t435 true _ ?side1 ?side2 ?side3 ?side4 ?side5 ?side6 ?side7 ?side8 A18.out).mono ?_
  (case side1 => exact cR HO450.out)
  (case side2 => exact (Kd.R_reads' HO450.out).2.1)
  (case side3 => exact cR HO453.out)
  (case side4 => exact (Kd.R_reads' HO453.out).2.1)
  (case side5 => exact cR HO431.out)
  (case side6 => exact (Kd.R_reads' HO431.out).2.1)
  (case side7 => exact cR HO434.out)
  (case side8 => exact (Kd.R_reads' HO434.out).2.1)
  rintro e w71 ⟨rfl, hb⟩
  refine ⟨_, rfl, ?_⟩
  have n0_ := aM (rB HO431.out hb)
  have n1_ := aM (rB HO434.out hb)
  have n2_ := aM (rB HO439.out hb)
  have n3_ := aM (rB HO450.out hb)
  have n4_ := aM (rB HO453.out hb)
  have n5_ := aM (rB HO466.out hb)
  have n6_ := aM (rB HO469.out hb)
  have n7_ := aM (rB HO481.out hb)
  have n8_ := aM (rB HO487.out hb)
  have n9_ := aM (rB HO490.out hb)
  have n10_ := aM (kB BK436.out hb)
  have n11_ := aM (kB BK456.out hb)
  have n12_ := aM (kB BK472.out hb)
  have n13_ := aM (kB BK493.out hb)
  have n14_ := aM (below_step (bS HB.out) hb)
  clear HO431
  clear HO434
  clear HO439
  clear HO450
  clear HO453
  clear HO466
  clear HO469
  clear HO481
  clear HO487
  clear HO490
  clear BK436
  clear BK456
  clear BK472
  clear BK493
  clear HB
  have HO431 := n0_
  have HO434 := n1_
  have HO439 := n2_
  have HO450 := n3_
  have HO453 := n4_
  have HO466 := n5_
  have HO469 := n6_
  have HO481 := n7_
  have HO487 := n8_
  have HO490 := n9_
  have BK436 := n10_
  have BK456 := n11_
  have BK472 := n12_
  have BK493 := n13_
  have HB := n14_
  clear n0_ n1_ n2_ n3_ n4_ n5_ n6_ n7_ n8_ n9_ n10_ n11_ n12_ n13_ n14_
  (try clear hb)
  (try clear hb2)
  (try clear hk)
  (try clear hi)
  refine hK.out _ _ ⟨(blk_cell BK456.out 0).trans rfl, (blk_cell BK456.out 1).trans rfl, (blk_cell BK456.out 2).trans rfl, (blk_cell BK456.out 3).trans rfl, (blk_cell BK456.out 4).trans rfl, (blk_cell BK456.out 5).trans rfl, (blk_cell BK436.out 0).trans rfl, (blk_cell BK436.out 1).trans rfl, (blk_cell BK436.out 2).trans rfl, (blk_cell BK436.out 3).trans rfl, (blk_cell BK436.out 4).trans rfl, (blk_cell BK436.out 5).trans rfl⟩ (fun hHeld => ?_)
  clear hK K
  refine norm_ (a' := ?_) ?_ ?_
  rotate_left
  ·show Act.put _ (some 73) _ = _
   simp only [Act.put, List.setIfInBounds_toArray, List.set_cons_zero, List.set_cons_succ, i64_w, i32_w]
   rfl
  refine pU (i := 6) (N := some 74) laws_FnAsked.y7 HT_ ?_
  refine pU (i := 7) (N := some 75) laws_FnAsked.y8 HT_ ?_
  refine pU (i := 8) (N := some 76) laws_FnAsked.y9 HT_ ?_
  refine pU (i := 9) (N := some 77) laws_FnAsked.y10 HT_ ?_
  refine pU (i := 10) (N := some 78) laws_FnAsked.y11 HT_ ?_
  refine pU (i := 11) (N := some 79) laws_FnAsked.y12 HT_ ?_
  by_cases c20 : t471 = 3
  rotate_left
  ·rw [if_neg c20] at H
   have c20b0 : (t471 == 3) = false := beq_eq_false_iff_ne.mpr c20
   have c20b1 : (t471 != 3) = true := bne_iff_ne.mpr c20
   obtain rfl := Option.some.inj H
   (try rw [c20b0])
   (try rw [c20b1])
   refine pN (i := 12) (N := some 80) laws_FnAsked.y13 HT_ ?_
   refine pN (i := 13) (N := some 81) laws_FnAsked.y14 HT_ ?_
   refine pU (i := 14) (N := some 82) laws_FnAsked.y15 HT_ ?_
   refine pU (i := 15) (N := some 83) laws_FnAsked.y16 HT_ ?_
   refine pN (i := 16) (N := some 84) laws_FnAsked.y17 HT_ ?_
   refine pN (i := 17) (N := some 85) laws_FnAsked.y18 HT_ ?_
   refine pU (i := 18) (N := some 86) laws_FnAsked.y19 HT_ ?_
   refine pU (i := 19) (N := some 87) laws_FnAsked.y20 HT_ ?_
   refine pN (i := 20) (N := some 88) laws_FnAsked.y21 HT_ ?_
   refine pN (i := 21) (N := some 89) laws_FnAsked.y22 HT_ ?_
   refine pN (i := 22) (N := some 90) laws_FnAsked.y23 HT_ ?_
   refine pN (i := 23) (N := some 91) laws_FnAsked.y24 HT_ ?_
   refine pU (i := 24) (N := some 92) laws_FnAsked.y25 HT_ ?_
   refine pU (i := 25) (N := some 93) laws_FnAsked.y26 HT_ ?_
   refine pN (i := 26) (N := some 94) laws_FnAsked.y27 HT_ ?_
   refine pN (i := 27) (N := some 95) laws_FnAsked.y28 HT_ ?_
   refine pU (i := 28) (N := some 96) laws_FnAsked.y29 HT_ ?_
   refine pU (i := 29) (N := some 97) laws_FnAsked.y30 HT_ ?_
   refine pN (i := 30) (N := some 98) laws_FnAsked.y31 HT_ ?_
   refine pN (i := 31) (N := some 99) laws_FnAsked.y32 HT_ ?_
   refine pN (i := 32) (N := some 100) laws_FnAsked.y33 HT_ ?_
   refine pN (i := 33) (N := some 101) laws_FnAsked.y34 HT_ ?_
   refine pU (i := 34) (N := some 102) laws_FnAsked.y35 HT_ ?_
   refine pU (i := 35) (N := some 103) laws_FnAsked.y36 HT_ ?_
   refine pN (i := 36) (N := some 104) laws_FnAsked.y37 HT_ ?_
   refine pN (i := 37) (N := some 105) laws_FnAsked.y38 HT_ ?_
   refine pU (i := 38) (N := some 106) laws_FnAsked.y39 HT_ ?_
   refine pU (i := 39) (N := some 107) laws_FnAsked.y40 HT_ ?_
   refine pN (i := 40) (N := some 108) laws_FnAsked.y41 HT_ ?_
   refine pN (i := 41) (N := some 109) laws_FnAsked.y42 HT_ ?_
   refine pU (i := 42) (N := some 110) laws_FnAsked.y43 HT_ ?_
   refine pU (i := 43) (N := some 111) laws_FnAsked.y44 HT_ ?_
   refine pN (i := 44) (N := some 112) laws_FnAsked.y49 HT_ ?_
   refine pN (i := 45) (N := some 113) laws_FnAsked.y50 HT_ ?_
   refine pN (i := 46) (N := some 114) laws_FnAsked.y51 HT_ ?_
   refine pN (i := 47) (N := some 115) laws_FnAsked.y52 HT_ ?_
   refine pN (i := 48) (N := some 116) laws_FnAsked.y45 HT_ ?_
   refine pN (i := 49) (N := some 117) laws_FnAsked.y46 HT_ ?_
   refine pU (i := 50) (N := some 118) laws_FnAsked.y47 HT_ ?_
   refine pU (i := 51) (N := some 2) laws_FnAsked.y48 HT_ ?_
   refine done_ (done_of HT_.out (by kernel_rfl)) ?_
   try go_wp2
   go_ret
   exact ⟨by first | rfl | (simp [errW_none, errW_some] <;> rfl) | (simp only [← hji10]; first | rfl | (simp [errW_none, errW_some] <;> rfl)) | (simp [*, errW_none, errW_some] <;> rfl), bS HB.out⟩
  rw [if_pos c20] at H
  have c20b0 : (t471 == 3) = true := beq_iff_eq.mpr c20
  have c20b1 : (t471 != 3) = false := bne_eq_false_iff_eq.mpr c20
  clear c20
  (try rw [c20b0])
  (try rw [c20b1])
  refine pU (i := 12) (N := some 80) laws_FnAsked.y13 HT_ ?_
  refine pU (i := 13) (N := some 81) laws_FnAsked.y14 HT_ ?_
  refine pU (i := 14) (N := some 82) laws_FnAsked.y15 HT_ ?_
  refine pU (i := 15) (N := some 83) laws_FnAsked.y16 HT_ ?_
  by_cases c21 : t492 = 3
  rotate_left
  ·rw [if_neg c21] at H
   have c21b0 : (t492 == 3) = false := beq_eq_false_iff_ne.mpr c21
   have c21b1 : (t492 != 3) = true := bne_iff_ne.mpr c21
   obtain rfl := Option.some.inj H
   (try rw [c21b0])
   (try rw [c21b1])
   refine pN (i := 16) (N := some 84) laws_FnAsked.y17 HT_ ?_
   refine pN (i := 17) (N := some 85) laws_FnAsked.y18 HT_ ?_
   refine pU (i := 18) (N := some 86) laws_FnAsked.y19 HT_ ?_
   refine pU (i := 19) (N := some 87) laws_FnAsked.y20 HT_ ?_
   refine pN (i := 20) (N := some 88) laws_FnAsked.y21 HT_ ?_
   refine pN (i := 21) (N := some 89) laws_FnAsked.y22 HT_ ?_
   refine pN (i := 22) (N := some 90) laws_FnAsked.y23 HT_ ?_
   refine pN (i := 23) (N := some 91) laws_FnAsked.y24 HT_ ?_
   refine pU (i := 24) (N := some 92) laws_FnAsked.y25 HT_ ?_
   refine pU (i := 25) (N := some 93) laws_FnAsked.y26 HT_ ?_
   refine pN (i := 26) (N := some 94) laws_FnAsked.y27 HT_ ?_
   refine pN (i := 27) (N := some 95) laws_FnAsked.y28 HT_ ?_
   refine pU (i := 28) (N := some 96) laws_FnAsked.y29 HT_ ?_
   refine pU (i := 29) (N := some 97) laws_FnAsked.y30 HT_ ?_
   refine pN (i := 30) (N := some 98) laws_FnAsked.y31 HT_ ?_
   refine pN (i := 31) (N := some 99) laws_FnAsked.y32 HT_ ?_
   refine pN (i := 32) (N := some 100) laws_FnAsked.y33 HT_ ?_
   refine pN (i := 33) (N := some 101) laws_FnAsked.y34 HT_ ?_
   refine pU (i := 34) (N := some 102) laws_FnAsked.y35 HT_ ?_
   refine pU (i := 35) (N := some 103) laws_FnAsked.y36 HT_ ?_
   refine pN (i := 36) (N := some 104) laws_FnAsked.y37 HT_ ?_
   refine pN (i := 37) (N := some 105) laws_FnAsked.y38 HT_ ?_
   refine pU (i := 38) (N := some 106) laws_FnAsked.y39 HT_ ?_
   refine pU (i := 39) (N := some 107) laws_FnAsked.y40 HT_ ?_
   refine pN (i := 40) (N := some 108) laws_FnAsked.y41 HT_ ?_
   refine pN (i := 41) (N := some 109) laws_FnAsked.y42 HT_ ?_
   refine pU (i := 42) (N := some 110) laws_FnAsked.y43 HT_ ?_
   refine pU (i := 43) (N := some 111) laws_FnAsked.y44 HT_ ?_
   refine pN (i := 44) (N := some 112) laws_FnAsked.y49 HT_ ?_
   refine pN (i := 45) (N := some 113) laws_FnAsked.y50 HT_ ?_
   refine pN (i := 46) (N := some 114) laws_FnAsked.y51 HT_ ?_
   refine pN (i := 47) (N := some 115) laws_FnAsked.y52 HT_ ?_
   refine pN (i := 48) (N := some 116) laws_FnAsked.y45 HT_ ?_
   refine pN (i := 49) (N := some 117) laws_FnAsked.y46 HT_ ?_
   refine pU (i := 50) (N := some 118) laws_FnAsked.y47 HT_ ?_
   refine pU (i := 51) (N := some 2) laws_FnAsked.y48 HT_ ?_
   refine done_ (done_of HT_.out (by kernel_rfl)) ?_
   try go_wp2
   go_ret
   exact ⟨by first | rfl | (simp [errW_none, errW_some] <;> rfl) | (simp only [← hji10]; first | rfl | (simp [errW_none, errW_some] <;> rfl)) | (simp [*, errW_none, errW_some] <;> rfl), bS HB.out⟩
  rw [if_pos c21] at H
  have c21b0 : (t492 == 3) = true := beq_iff_eq.mpr c21
  have c21b1 : (t492 != 3) = false := bne_eq_false_iff_eq.mpr c21
  clear c21
  replace H := Option.bind_eq_some_iff.mp H
  obtain ⟨t495, A220, H⟩ := H
  (try dsimp only at H)
  have A22 := aM A220
  clear A220
  (try rw [c21b0])
  (try rw [c21b1])
  refine take_ (i := 16) (N := some 84) (v := ?_) (a' := ?_) laws_FnAsked.y17 rfl rfl (take_ofW HT_.out HW_.out (by kernel_rfl)) (fun _ _ _ h => h) (Or.inl ⟨by rfl, ?_⟩) hHeld ?_ ?_
  rotate_left
  ·rintro w' ⟨s0, s1, s2, s3, s4, s5, s6, s7, s8, s9, s10, s11⟩
   go_simp
   with_reducible rfl
  rotate_left
  ·simp only [Act.put, List.setIfInBounds_toArray, List.set_cons_zero, List.set_cons_succ, i64_w, i32_w]
   rfl
  by_cases c23 : t495 = true
  rotate_left
  ·replace c23 := Bool.eq_false_iff.mpr c23
   subst c23
   rw [if_neg (show ¬ (false = true) by decide)] at H
   (try dsimp only at H)
   obtain rfl := Option.some.inj H
   refine one_ (i := 17) (N := some 85) laws_FnAsked.y18 rfl rfl (one_of HT_.out (by kernel_rfl)) (by decide) (fun K hK => ?_)
   refine goes_ Try.func25 (by kernel_rfl) rfl #[.agg #[.int .i64 t426, .int .i64 t427, .int .i64 t428, .slice Ao33 t429.length co33, .slice Ao34 t432.length co34, .int .i64 t435]] (by rfl) rfl rfl (by (try simp only [List.map_toArray, List.map_cons, List.map_nil]); first | done | rfl | (simp only [List.length_drop, List.length_take]; rfl)) ?_
   with_reducible refine (impl_ReqOk.calls k t426 t427 t428 _ _ t429 _ _ t432 t435 false _ ?side1 ?side2 ?side3 ?side4 A22.out).mono ?_
   (case side1 => exact cR HO431.out)
   (case side2 => exact (Kd.R_reads' HO431.out).2.1)
   (case side3 => exact cR HO434.out)
   (case side4 => exact (Kd.R_reads' HO434.out).2.1)
   rintro e w331 ⟨rfl, hb⟩
   refine ⟨_, rfl, ?_⟩
   have n0_ := aM (rB HO431.out hb)
   have n1_ := aM (rB HO434.out hb)
   have n2_ := aM (rB HO439.out hb)
   have n3_ := aM (rB HO450.out hb)
   have n4_ := aM (rB HO453.out hb)
   have n5_ := aM (rB HO466.out hb)
   have n6_ := aM (rB HO469.out hb)
   have n7_ := aM (rB HO481.out hb)
   have n8_ := aM (rB HO487.out hb)
   have n9_ := aM (rB HO490.out hb)
   have n10_ := aM (kB BK436.out hb)
   have n11_ := aM (kB BK456.out hb)
   have n12_ := aM (kB BK472.out hb)
   have n13_ := aM (kB BK493.out hb)
   have n14_ := aM (below_step (bS HB.out) hb)
   clear HO431
   clear HO434
   clear HO439
   clear HO450
   clear HO453
   clear HO466
   clear HO469
   clear HO481
   clear HO487
   clear HO490
   clear BK436
   clear BK456
   clear BK472
   clear BK493
   clear HB
   have HO431 := n0_
   have HO434 := n1_
   have HO439 := n2_
   have HO450 := n3_
   have HO453 := n4_
   have HO466 := n5_
   have HO469 := n6_
   have HO481 := n7_
   have HO487 := n8_
   have HO490 := n9_
   have BK436 := n10_
   have BK456 := n11_
   have BK472 := n12_
   have BK493 := n13_
   have HB := n14_
   clear n0_ n1_ n2_ n3_ n4_ n5_ n6_ n7_ n8_ n9_ n10_ n11_ n12_ n13_ n14_
   (try clear hb)
   (try clear hb2)
   (try clear hk)
   (try clear hi)
   refine hK.out _ _ ⟨(blk_cell BK456.out 0).trans rfl, (blk_cell BK456.out 1).trans rfl, (blk_cell BK456.out 2).trans rfl, (blk_cell BK456.out 3).trans rfl, (blk_cell BK456.out 4).trans rfl, (blk_cell BK456.out 5).trans rfl, (blk_cell BK436.out 0).trans rfl, (blk_cell BK436.out 1).trans rfl, (blk_cell BK436.out 2).trans rfl, (blk_cell BK436.out 3).trans rfl, (blk_cell BK436.out 4).trans rfl, (blk_cell BK436.out 5).trans rfl⟩ (fun hHeld => ?_)
   clear hK K
   refine norm_ (a' := ?_) ?_ ?_
   rotate_left
   ·show Act.put _ (some 85) _ = _
    simp only [Act.put, List.setIfInBounds_toArray, List.set_cons_zero, List.set_cons_succ, i64_w, i32_w]
    rfl
   refine pU (i := 18) (N := some 86) laws_FnAsked.y19 HT_ ?_
   refine pU (i := 19) (N := some 87) laws_FnAsked.y20 HT_ ?_
   refine pN (i := 20) (N := some 88) laws_FnAsked.y21 HT_ ?_
   refine pN (i := 21) (N := some 89) laws_FnAsked.y22 HT_ ?_
   refine pN (i := 22) (N := some 90) laws_FnAsked.y23 HT_ ?_
   refine pN (i := 23) (N := some 91) laws_FnAsked.y24 HT_ ?_
   refine pU (i := 24) (N := some 92) laws_FnAsked.y25 HT_ ?_
   refine pU (i := 25) (N := some 93) laws_FnAsked.y26 HT_ ?_
   refine pN (i := 26) (N := some 94) laws_FnAsked.y27 HT_ ?_
   refine pN (i := 27) (N := some 95) laws_FnAsked.y28 HT_ ?_
   refine pU (i := 28) (N := some 96) laws_FnAsked.y29 HT_ ?_
   refine pU (i := 29) (N := some 97) laws_FnAsked.y30 HT_ ?_
   refine pN (i := 30) (N := some 98) laws_FnAsked.y31 HT_ ?_
   refine pN (i := 31) (N := some 99) laws_FnAsked.y32 HT_ ?_
   refine pN (i := 32) (N := some 100) laws_FnAsked.y33 HT_ ?_
   refine pN (i := 33) (N := some 101) laws_FnAsked.y34 HT_ ?_
   refine pU (i := 34) (N := some 102) laws_FnAsked.y35 HT_ ?_
   refine pU (i := 35) (N := some 103) laws_FnAsked.y36 HT_ ?_
   refine pN (i := 36) (N := some 104) laws_FnAsked.y37 HT_ ?_
   refine pN (i := 37) (N := some 105) laws_FnAsked.y38 HT_ ?_
   refine pU (i := 38) (N := some 106) laws_FnAsked.y39 HT_ ?_
   refine pU (i := 39) (N := some 107) laws_FnAsked.y40 HT_ ?_
   refine pN (i := 40) (N := some 108) laws_FnAsked.y41 HT_ ?_
   refine pN (i := 41) (N := some 109) laws_FnAsked.y42 HT_ ?_
   refine pU (i := 42) (N := some 110) laws_FnAsked.y43 HT_ ?_
   refine pU (i := 43) (N := some 111) laws_FnAsked.y44 HT_ ?_
   refine pN (i := 44) (N := some 112) laws_FnAsked.y49 HT_ ?_
   refine pN (i := 45) (N := some 113) laws_FnAsked.y50 HT_ ?_
   refine pN (i := 46) (N := some 114) laws_FnAsked.y51 HT_ ?_
   refine pN (i := 47) (N := some 115) laws_FnAsked.y52 HT_ ?_
   refine pN (i := 48) (N := some 116) laws_FnAsked.y45 HT_ ?_
   refine pN (i := 49) (N := some 117) laws_FnAsked.y46 HT_ ?_
   refine pU (i := 50) (N := some 118) laws_FnAsked.y47 HT_ ?_
   refine pU (i := 51) (N := some 2) laws_FnAsked.y48 HT_ ?_
   refine done_ (done_of HT_.out (by kernel_rfl)) ?_
   try go_wp2
   go_ret
   exact ⟨by first | rfl | (simp [errW_none, errW_some] <;> rfl) | (simp only [← hji10]; first | rfl | (simp [errW_none, errW_some] <;> rfl)) | (simp [*, errW_none, errW_some] <;> rfl), bS HB.out⟩
  subst c23
  rw [if_pos rfl] at H
  (try dsimp only at H)
  refine one_ (i := 17) (N := some 85) laws_FnAsked.y18 rfl rfl (one_of HT_.out (by kernel_rfl)) (by decide) (fun K hK => ?_)
  refine goes_ Try.func25 (by kernel_rfl) rfl #[.agg #[.int .i64 t426, .int .i64 t427, .int .i64 t428, .slice Ao33 t429.length co33, .slice Ao34 t432.length co34, .int .i64 t435]] (by rfl) rfl rfl (by (try simp only [List.map_toArray, List.map_cons, List.map_nil]); first | done | rfl | (simp only [List.length_drop, List.length_take]; rfl)) ?_
  with_reducible refine (impl_ReqOk.calls k t426 t427 t428 _ _ t429 _ _ t432 t435 true _ ?side1 ?side2 ?side3 ?side4 A22.out).mono ?_
  (case side1 => exact cR HO431.out)
  (case side2 => exact (Kd.R_reads' HO431.out).2.1)
  (case side3 => exact cR HO434.out)
  (case side4 => exact (Kd.R_reads' HO434.out).2.1)
  rintro e w72 ⟨rfl, hb⟩
  refine ⟨_, rfl, ?_⟩
  have n0_ := aM (rB HO431.out hb)
  have n1_ := aM (rB HO434.out hb)
  have n2_ := aM (rB HO439.out hb)
  have n3_ := aM (rB HO450.out hb)
  have n4_ := aM (rB HO453.out hb)
  have n5_ := aM (rB HO466.out hb)
  have n6_ := aM (rB HO469.out hb)
  have n7_ := aM (rB HO481.out hb)
  have n8_ := aM (rB HO487.out hb)
  have n9_ := aM (rB HO490.out hb)
  have n10_ := aM (kB BK436.out hb)
  have n11_ := aM (kB BK456.out hb)
  have n12_ := aM (kB BK472.out hb)
  have n13_ := aM (kB BK493.out hb)
  have n14_ := aM (below_step (bS HB.out) hb)
  clear HO431
  clear HO434
  clear HO439
  clear HO450
  clear HO453
  clear HO466
  clear HO469
  clear HO481
  clear HO487
  clear HO490
  clear BK436
  clear BK456
  clear BK472
  clear BK493
  clear HB
  have HO431 := n0_
  have HO434 := n1_
  have HO439 := n2_
  have HO450 := n3_
  have HO453 := n4_
  have HO466 := n5_
  have HO469 := n6_
  have HO481 := n7_
  have HO487 := n8_
  have HO490 := n9_
  have BK436 := n10_
  have BK456 := n11_
  have BK472 := n12_
  have BK493 := n13_
  have HB := n14_
  clear n0_ n1_ n2_ n3_ n4_ n5_ n6_ n7_ n8_ n9_ n10_ n11_ n12_ n13_ n14_
  (try clear hb)
  (try clear hb2)
  (try clear hk)
  (try clear hi)
  refine hK.out _ _ ⟨(blk_cell BK456.out 0).trans rfl, (blk_cell BK456.out 1).trans rfl, (blk_cell BK456.out 2).trans rfl, (blk_cell BK456.out 3).trans rfl, (blk_cell BK456.out 4).trans rfl, (blk_cell BK456.out 5).trans rfl, (blk_cell BK436.out 0).trans rfl, (blk_cell BK436.out 1).trans rfl, (blk_cell BK436.out 2).trans rfl, (blk_cell BK436.out 3).trans rfl, (blk_cell BK436.out 4).trans rfl, (blk_cell BK436.out 5).trans rfl⟩ (fun hHeld => ?_)
  clear hK K
  refine norm_ (a' := ?_) ?_ ?_
  rotate_left
  ·show Act.put _ (some 85) _ = _
   simp only [Act.put, List.setIfInBounds_toArray, List.set_cons_zero, List.set_cons_succ, i64_w, i32_w]
   rfl
  refine pU (i := 18) (N := some 86) laws_FnAsked.y19 HT_ ?_
  refine pU (i := 19) (N := some 87) laws_FnAsked.y20 HT_ ?_
  refine pU (i := 20) (N := some 88) laws_FnAsked.y21 HT_ ?_
  refine pU (i := 21) (N := some 89) laws_FnAsked.y22 HT_ ?_
  refine take_ (i := 22) (N := some 90) (v := ?_) (a' := ?_) laws_FnAsked.y23 rfl rfl (take_ofW HT_.out HW_.out (by kernel_rfl)) (fun _ _ _ h => h) (Or.inl ⟨by rfl, ?_⟩) hHeld ?_ ?_
  rotate_left
  ·rintro w' ⟨s0, s1, s2, s3, s4, s5, s6, s7, s8, s9, s10, s11⟩
   go_simp
   with_reducible rfl
  rotate_left
  ·simp only [Act.put, List.setIfInBounds_toArray, List.set_cons_zero, List.set_cons_succ, i64_w, i32_w]
   rfl
  refine pU (i := 23) (N := some 91) laws_FnAsked.y24 HT_ ?_
  refine pU (i := 24) (N := some 92) laws_FnAsked.y25 HT_ ?_
  refine pU (i := 25) (N := some 93) laws_FnAsked.y26 HT_ ?_
  by_cases c24 : t441 = t427
  rotate_left
  ·rw [if_neg c24] at H
   have c24b0 : (t441 == t427) = false := beq_eq_false_iff_ne.mpr c24
   have c24b1 : (t441 != t427) = true := bne_iff_ne.mpr c24
   obtain rfl := Option.some.inj H
   (try rw [c24b0])
   (try rw [c24b1])
   refine pN (i := 26) (N := some 94) laws_FnAsked.y27 HT_ ?_
   refine pN (i := 27) (N := some 95) laws_FnAsked.y28 HT_ ?_
   refine pU (i := 28) (N := some 96) laws_FnAsked.y29 HT_ ?_
   refine pU (i := 29) (N := some 97) laws_FnAsked.y30 HT_ ?_
   refine pN (i := 30) (N := some 98) laws_FnAsked.y31 HT_ ?_
   refine pN (i := 31) (N := some 99) laws_FnAsked.y32 HT_ ?_
   refine pN (i := 32) (N := some 100) laws_FnAsked.y33 HT_ ?_
   refine pN (i := 33) (N := some 101) laws_FnAsked.y34 HT_ ?_
   refine pU (i := 34) (N := some 102) laws_FnAsked.y35 HT_ ?_
   refine pU (i := 35) (N := some 103) laws_FnAsked.y36 HT_ ?_
   refine pN (i := 36) (N := some 104) laws_FnAsked.y37 HT_ ?_
   refine pN (i := 37) (N := some 105) laws_FnAsked.y38 HT_ ?_
   refine pU (i := 38) (N := some 106) laws_FnAsked.y39 HT_ ?_
   refine pU (i := 39) (N := some 107) laws_FnAsked.y40 HT_ ?_
   refine pN (i := 40) (N := some 108) laws_FnAsked.y41 HT_ ?_
   refine pN (i := 41) (N := some 109) laws_FnAsked.y42 HT_ ?_
   refine pU (i := 42) (N := some 110) laws_FnAsked.y43 HT_ ?_
   refine pU (i := 43) (N := some 111) laws_FnAsked.y44 HT_ ?_
   refine pN (i := 44) (N := some 112) laws_FnAsked.y49 HT_ ?_
   refine pN (i := 45) (N := some 113) laws_FnAsked.y50 HT_ ?_
   refine pN (i := 46) (N := some 114) laws_FnAsked.y51 HT_ ?_
   refine pN (i := 47) (N := some 115) laws_FnAsked.y52 HT_ ?_
   refine pN (i := 48) (N := some 116) laws_FnAsked.y45 HT_ ?_
   refine pN (i := 49) (N := some 117) laws_FnAsked.y46 HT_ ?_
   refine pU (i := 50) (N := some 118) laws_FnAsked.y47 HT_ ?_
   refine pU (i := 51) (N := some 2) laws_FnAsked.y48 HT_ ?_
   refine done_ (done_of HT_.out (by kernel_rfl)) ?_
   try go_wp2
   go_ret
   exact ⟨by first | rfl | (simp [errW_none, errW_some] <;> rfl) | (simp only [← hji10]; first | rfl | (simp [errW_none, errW_some] <;> rfl)) | (simp [*, errW_none, errW_some] <;> rfl), bS HB.out⟩
  rw [if_pos c24] at H
  have c24b0 : (t441 == t427) = true := beq_iff_eq.mpr c24
  have c24b1 : (t441 != t427) = false := bne_eq_false_iff_eq.mpr c24
  clear c24
  (try rw [c24b0])
  (try rw [c24b1])
  refine pU (i := 26) (N := some 94) laws_FnAsked.y27 HT_ ?_
  refine pU (i := 27) (N := some 95) laws_FnAsked.y28 HT_ ?_
  refine pU (i := 28) (N := some 96) laws_FnAsked.y29 HT_ ?_
  refine pU (i := 29) (N := some 97) laws_FnAsked.y30 HT_ ?_
  by_cases c25 : t442 ≥ 1
  rotate_left
  ·rw [if_neg c25] at H
   have c25b0 : decide (1 ≤ t442) = false := decide_eq_false c25
   clear c25
   obtain rfl := Option.some.inj H
   (try rw [c25b0])
   refine pN (i := 30) (N := some 98) laws_FnAsked.y31 HT_ ?_
   refine pN (i := 31) (N := some 99) laws_FnAsked.y32 HT_ ?_
   refine pN (i := 32) (N := some 100) laws_FnAsked.y33 HT_ ?_
   refine pN (i := 33) (N := some 101) laws_FnAsked.y34 HT_ ?_
   refine pU (i := 34) (N := some 102) laws_FnAsked.y35 HT_ ?_
   refine pU (i := 35) (N := some 103) laws_FnAsked.y36 HT_ ?_
   refine pN (i := 36) (N := some 104) laws_FnAsked.y37 HT_ ?_
   refine pN (i := 37) (N := some 105) laws_FnAsked.y38 HT_ ?_
   refine pU (i := 38) (N := some 106) laws_FnAsked.y39 HT_ ?_
   refine pU (i := 39) (N := some 107) laws_FnAsked.y40 HT_ ?_
   refine pN (i := 40) (N := some 108) laws_FnAsked.y41 HT_ ?_
   refine pN (i := 41) (N := some 109) laws_FnAsked.y42 HT_ ?_
   refine pU (i := 42) (N := some 110) laws_FnAsked.y43 HT_ ?_
   refine pU (i := 43) (N := some 111) laws_FnAsked.y44 HT_ ?_
   refine pN (i := 44) (N := some 112) laws_FnAsked.y49 HT_ ?_
   refine pN (i := 45) (N := some 113) laws_FnAsked.y50 HT_ ?_
   refine pN (i := 46) (N := some 114) laws_FnAsked.y51 HT_ ?_
   refine pN (i := 47) (N := some 115) laws_FnAsked.y52 HT_ ?_
   refine pN (i := 48) (N := some 116) laws_FnAsked.y45 HT_ ?_
   refine pN (i := 49) (N := some 117) laws_FnAsked.y46 HT_ ?_
   refine pU (i := 50) (N := some 118) laws_FnAsked.y47 HT_ ?_
   refine pU (i := 51) (N := some 2) laws_FnAsked.y48 HT_ ?_
   refine done_ (done_of HT_.out (by kernel_rfl)) ?_
   try go_wp2
   go_ret
   exact ⟨by first | rfl | (simp [errW_none, errW_some] <;> rfl) | (simp only [← hji10]; first | rfl | (simp [errW_none, errW_some] <;> rfl)) | (simp [*, errW_none, errW_some] <;> rfl), bS HB.out⟩
  rw [if_pos c25] at H
  have c25b0 : decide (1 ≤ t442) = true := decide_eq_true c25
  clear c25
  (try rw [c25b0])
  refine pU (i := 30) (N := some 98) laws_FnAsked.y31 HT_ ?_
  refine pU (i := 31) (N := some 99) laws_FnAsked.y32 HT_ ?_
  refine pU (i := 32) (N := some 100) laws_FnAsked.y33 HT_ ?_
  refine pU (i := 33) (N := some 101) laws_FnAsked.y34 HT_ ?_
  refine pU (i := 34) (N := some 102) laws_FnAsked.y35 HT_ ?_
  refine pU (i := 35) (N := some 103) laws_FnAsked.y36 HT_ ?_
  by_cases c26 : (wrap64 (t441 + t442)) ≤ 65536
  rotate_left
  ·rw [if_neg c26] at H
   have c26b0 : decide ((wrap64 (t441 + t442)) ≤ 65536) = false := decide_eq_false c26
   clear c26
   obtain rfl := Option.some.inj H
   (try rw [c26b0])
   refine pN (i := 36) (N := some 104) laws_FnAsked.y37 HT_ ?_
   refine pN (i := 37) (N := some 105) laws_FnAsked.y38 HT_ ?_
   refine pU (i := 38) (N := some 106) laws_FnAsked.y39 HT_ ?_
   refine pU (i := 39) (N := some 107) laws_FnAsked.y40 HT_ ?_
   refine pN (i := 40) (N := some 108) laws_FnAsked.y41 HT_ ?_
   refine pN (i := 41) (N := some 109) laws_FnAsked.y42 HT_ ?_
   refine pU (i := 42) (N := some 110) laws_FnAsked.y43 HT_ ?_
   refine pU (i := 43) (N := some 111) laws_FnAsked.y44 HT_ ?_
   refine pN (i := 44) (N := some 112) laws_FnAsked.y49 HT_ ?_
   refine pN (i := 45) (N := some 113) laws_FnAsked.y50 HT_ ?_
   refine pN (i := 46) (N := some 114) laws_FnAsked.y51 HT_ ?_
   refine pN (i := 47) (N := some 115) laws_FnAsked.y52 HT_ ?_
   refine pN (i := 48) (N := some 116) laws_FnAsked.y45 HT_ ?_
   refine pN (i := 49) (N := some 117) laws_FnAsked.y46 HT_ ?_
   refine pU (i := 50) (N := some 118) laws_FnAsked.y47 HT_ ?_
   refine pU (i := 51) (N := some 2) laws_FnAsked.y48 HT_ ?_
   refine done_ (done_of HT_.out (by kernel_rfl)) ?_
   try go_wp2
   go_ret
   exact ⟨by first | rfl | (simp [errW_none, errW_some] <;> rfl) | (simp only [← hji10]; first | rfl | (simp [errW_none, errW_some] <;> rfl)) | (simp [*, errW_none, errW_some] <;> rfl), bS HB.out⟩
  rw [if_pos c26] at H
  have c26b0 : decide ((wrap64 (t441 + t442)) ≤ 65536) = true := decide_eq_true c26
  clear c26
  (try rw [c26b0])
  refine pU (i := 36) (N := some 104) laws_FnAsked.y37 HT_ ?_
  refine pU (i := 37) (N := some 105) laws_FnAsked.y38 HT_ ?_
  refine pU (i := 38) (N := some 106) laws_FnAsked.y39 HT_ ?_
  refine pU (i := 39) (N := some 107) laws_FnAsked.y40 HT_ ?_
  by_cases c27 : t440 ≥ 0
  rotate_left
  ·rw [if_neg c27] at H
   have c27b0 : decide (0 ≤ t440) = false := decide_eq_false c27
   clear c27
   obtain rfl := Option.some.inj H
   (try rw [c27b0])
   refine pN (i := 40) (N := some 108) laws_FnAsked.y41 HT_ ?_
   refine pN (i := 41) (N := some 109) laws_FnAsked.y42 HT_ ?_
   refine pU (i := 42) (N := some 110) laws_FnAsked.y43 HT_ ?_
   refine pU (i := 43) (N := some 111) laws_FnAsked.y44 HT_ ?_
   refine pN (i := 44) (N := some 112) laws_FnAsked.y49 HT_ ?_
   refine pN (i := 45) (N := some 113) laws_FnAsked.y50 HT_ ?_
   refine pN (i := 46) (N := some 114) laws_FnAsked.y51 HT_ ?_
   refine pN (i := 47) (N := some 115) laws_FnAsked.y52 HT_ ?_
   refine pN (i := 48) (N := some 116) laws_FnAsked.y45 HT_ ?_
   refine pN (i := 49) (N := some 117) laws_FnAsked.y46 HT_ ?_
   refine pU (i := 50) (N := some 118) laws_FnAsked.y47 HT_ ?_
   refine pU (i := 51) (N := some 2) laws_FnAsked.y48 HT_ ?_
   refine done_ (done_of HT_.out (by kernel_rfl)) ?_
   try go_wp2
   go_ret
   exact ⟨by first | rfl | (simp [errW_none, errW_some] <;> rfl) | (simp only [← hji10]; first | rfl | (simp [errW_none, errW_some] <;> rfl)) | (simp [*, errW_none, errW_some] <;> rfl), bS HB.out⟩
  rw [if_pos c27] at H
  have c27b0 : decide (0 ≤ t440) = true := decide_eq_true c27
  clear c27
  (try rw [c27b0])
  refine pU (i := 40) (N := some 108) laws_FnAsked.y41 HT_ ?_
  refine pU (i := 41) (N := some 109) laws_FnAsked.y42 HT_ ?_
  refine pU (i := 42) (N := some 110) laws_FnAsked.y43 HT_ ?_
  refine pU (i := 43) (N := some 111) laws_FnAsked.y44 HT_ ?_
  by_cases c28 : t440 ≤ 3
  rotate_left
  ·rw [if_neg c28] at H
   have c28b0 : decide (t440 ≤ 3) = false := decide_eq_false c28
   clear c28
   obtain rfl := Option.some.inj H
   (try rw [c28b0])
   refine pN (i := 44) (N := some 112) laws_FnAsked.y49 HT_ ?_
   refine pN (i := 45) (N := some 113) laws_FnAsked.y50 HT_ ?_
   refine pN (i := 46) (N := some 114) laws_FnAsked.y51 HT_ ?_
   refine pN (i := 47) (N := some 115) laws_FnAsked.y52 HT_ ?_
   refine pN (i := 48) (N := some 116) laws_FnAsked.y45 HT_ ?_
   refine pN (i := 49) (N := some 117) laws_FnAsked.y46 HT_ ?_
   refine pU (i := 50) (N := some 118) laws_FnAsked.y47 HT_ ?_
   refine pU (i := 51) (N := some 2) laws_FnAsked.y48 HT_ ?_
   refine done_ (done_of HT_.out (by kernel_rfl)) ?_
   try go_wp2
   go_ret
   exact ⟨by first | rfl | (simp [errW_none, errW_some] <;> rfl) | (simp only [← hji10]; first | rfl | (simp [errW_none, errW_some] <;> rfl)) | (simp [*, errW_none, errW_some] <;> rfl), bS HB.out⟩
  rw [if_pos c28] at H
  have c28b0 : decide (t440 ≤ 3) = true := decide_eq_true c28
  clear c28
  replace H := Option.bind_eq_some_iff.mp H
  obtain ⟨t496, A290, H⟩ := H
  (try dsimp only at H)
  have A29 := aM A290
  clear A290
  obtain rfl := Option.some.inj H
  (try rw [c28b0])
  refine pU (i := 46) (N := some 114) #[true, true, true, true, true, true, true, true, true, true, true, true, true, true, true, true, true, true, true, true, true, true, true, true, true, true, true, true, true, true, true, true, true, true, true, true, true, true, true, true, true, true, true, true, false, false, true, false, false, false, false, false] HT_ ?_
  refine take_ (i := 44) (N := some 112) (v := ?_) (a' := ?_) #[true, true, true, true, true, true, true, true, true, true, true, true, true, true, true, true, true, true, true, true, true, true, true, true, true, true, true, true, true, true, true, true, true, true, true, true, true, true, true, true, true, true, true, true, true, false, true, false, false, false, false, false] rfl rfl (take_ofW HT_.out HW_.out (by kernel_rfl)) (fun _ _ _ h => h) (Or.inl ⟨by rfl, ?_⟩) hHeld ?_ ?_
  rotate_left
  ·rintro w' ⟨s0, s1, s2, s3, s4, s5, s6, s7, s8, s9, s10, s11⟩
   go_simp
   with_reducible rfl
  rotate_left
  ·simp only [Act.put, List.setIfInBounds_toArray, List.set_cons_zero, List.set_cons_succ, i64_w, i32_w]
   rfl
  refine take_ (i := 47) (N := some 115) (v := ?_) (a' := ?_) #[true, true, true, true, true, true, true, true, true, true, true, true, true, true, true, true, true, true, true, true, true, true, true, true, true, true, true, true, true, true, true, true, true, true, true, true, true, true, true, true, true, true, true, true, true, false, true, true, false, false, false, false] rfl rfl (take_ofW HT_.out HW_.out (by kernel_rfl)) (fun _ _ _ h => h) (Or.inl ⟨by rfl, ?_⟩) hHeld ?_ ?_
  rotate_left
  ·rintro w' ⟨s0, s1, s2, s3, s4, s5, s6, s7, s8, s9, s10, s11⟩
   go_simp
   with_reducible rfl
  rotate_left
  ·simp only [Act.put, List.setIfInBounds_toArray, List.set_cons_zero, List.set_cons_succ, i64_w, i32_w]
   rfl
  refine pU (i := 48) (N := some 116) #[true, true, true, true, true, true, true, true, true, true, true, true, true, true, true, true, true, true, true, true, true, true, true, true, true, true, true, true, true, true, true, true, true, true, true, true, true, true, true, true, true, true, true, true, true, false, true, true, true, false, false, false] HT_ ?_
  refine one_ (i := 45) (N := some 113) laws_FnAsked.y45 rfl rfl (one_of HT_.out (by kernel_rfl)) (by decide) (fun K hK => ?_)
  refine goes_ Try.func27 (by kernel_rfl) rfl #[.agg #[.int .i64 t426, .int .i64 t427, .int .i64 t428, .slice Ao33 t429.length co33, .slice Ao34 t432.length co34, .int .i64 t435]] (by rfl) rfl rfl (by (try simp only [List.map_toArray, List.map_cons, List.map_nil]); first | done | rfl | (simp only [List.length_drop, List.length_take]; rfl)) ?_
  with_reducible refine (impl_Writes.calls t426 t427 t428 _ _ t429 _ _ t432 t435 t496 _ ?side1 ?side2 ?side3 ?side4 A29.out).mono ?_
  (case side1 => exact cR HO431.out)
  (case side2 => exact (Kd.R_reads' HO431.out).2.1)
  (case side3 => exact cR HO434.out)
  (case side4 => exact (Kd.R_reads' HO434.out).2.1)
  rintro e w73 ⟨rfl, hb⟩
  refine ⟨_, rfl, ?_⟩
  have n0_ := aM (rB HO431.out hb)
  have n1_ := aM (rB HO434.out hb)
  have n2_ := aM (rB HO439.out hb)
  have n3_ := aM (rB HO450.out hb)
  have n4_ := aM (rB HO453.out hb)
  have n5_ := aM (rB HO466.out hb)
  have n6_ := aM (rB HO469.out hb)
  have n7_ := aM (rB HO481.out hb)
  have n8_ := aM (rB HO487.out hb)
  have n9_ := aM (rB HO490.out hb)
  have n10_ := aM (kB BK436.out hb)
  have n11_ := aM (kB BK456.out hb)
  have n12_ := aM (kB BK472.out hb)
  have n13_ := aM (kB BK493.out hb)
  have n14_ := aM (below_step (bS HB.out) hb)
  clear HO431
  clear HO434
  clear HO439
  clear HO450
  clear HO453
  clear HO466
  clear HO469
  clear HO481
  clear HO487
  clear HO490
  clear BK436
  clear BK456
  clear BK472
  clear BK493
  clear HB
  have HO431 := n0_
  have HO434 := n1_
  have HO439 := n2_
  have HO450 := n3_
  have HO453 := n4_
  have HO466 := n5_
  have HO469 := n6_
  have HO481 := n7_
  have HO487 := n8_
  have HO490 := n9_
  have BK436 := n10_
  have BK456 := n11_
  have BK472 := n12_
  have BK493 := n13_
  have HB := n14_
  clear n0_ n1_ n2_ n3_ n4_ n5_ n6_ n7_ n8_ n9_ n10_ n11_ n12_ n13_ n14_
  (try clear hb)
  (try clear hb2)
  (try clear hk)
  (try clear hi)
  refine hK.out _ _ ⟨(blk_cell BK456.out 0).trans rfl, (blk_cell BK456.out 1).trans rfl, (blk_cell BK456.out 2).trans rfl, (blk_cell BK456.out 3).trans rfl, (blk_cell BK456.out 4).trans rfl, (blk_cell BK456.out 5).trans rfl, (blk_cell BK436.out 0).trans rfl, (blk_cell BK436.out 1).trans rfl, (blk_cell BK436.out 2).trans rfl, (blk_cell BK436.out 3).trans rfl, (blk_cell BK436.out 4).trans rfl, (blk_cell BK436.out 5).trans rfl⟩ (fun hHeld => ?_)
  clear hK K
  refine norm_ (a' := ?_) ?_ ?_
  rotate_left
  ·show Act.put _ (some 113) _ = _
   simp only [Act.put, List.setIfInBounds_toArray, List.set_cons_zero, List.set_cons_succ, i64_w, i32_w]
   rfl
  refine pU (i := 49) (N := some 117) laws_FnAsked.y46 HT_ ?_
  refine pU (i := 50) (N := some 118) laws_FnAsked.y47 HT_ ?_
  refine pU (i := 51) (N := some 2) laws_FnAsked.y48 HT_ ?_
  refine done_ (done_of HT_.out (by kernel_rfl)) ?_
  try go_wp2
  go_ret
  exact ⟨by first | rfl | (simp [errW_none, errW_some] <;> rfl) | (simp only [← hji10]; first | rfl | (simp [errW_none, errW_some] <;> rfl)) | (simp [*, errW_none, errW_some] <;> rfl), bS HB.out⟩
end Go.Proofs.Yteoghpcgompajaa.PFnAsked
