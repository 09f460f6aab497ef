/- Contracts of functions, for more than one law: what they compute. -/
import Derived.Test.YtiiodfagedcofaaProg
import Derived.Test.YtiiodfagedcofaaWMore
import Derived.Test.YtiiodfagedcofaaWRepsOne
import Derived.Test.YtiiodfagedcofaaWTab
import Derived.WalkSpells
import Derived.Test.YtiiodfagedcofaaL
import Derived.Below
import Derived.Deep.Draws
import Derived.Deep.AppendLies
import Derived.Maps.AppendAt
import Derived.OwnWalk
import Derived.Laws.BytesArg
import Derived.Laws.MakeOwn
import Derived.Laws.OwnMore
import Derived.Deep.OwnRows
import Derived.Tactics
import Derived.Lib.ConvBytes
import Derived.Laws.Slices
import Derived.WalkKit
import Derived.KernelRfl
import Derived.RowKit3
import Derived.Deep.LoopGhost
import Derived.Deep.QuietTactic
import Derived.BigQuiet
import Derived.WideLaws
import Derived.Deep.DeepCutAuto
import Derived.Deep.CutBlock
import Derived.Deep.RegionHeld3
import Derived.Laws.Rows
import Derived.Lib.AppendStr
import Derived.ArgAppend
import Derived.Laws.IdiomCopy
import Derived.OrdersHeld
import Derived.Laws.BitsLemmas
import Derived.RowKit
import Derived.Test.YtiiodfagedcofaaWWords
import Derived.Test.YtiiodfagedcofaaWLast
import Derived.Test.YtiiodfagedcofaaWApart
import Derived.Test.YtiiodfagedcofaaWFoot
import Derived.Test.YtiiodfagedcofaaWKept
import Derived.Test.YtiiodfagedcofaaWShare
import Derived.Test.YtiiodfagedcofaaWN
import Derived.Laws.StructEq
import Derived.Test.YtiiodfagedcofaaWInv
import Derived.Test.YtiiodfagedcofaaWGuard
import Derived.Test.YtiiodfagedcofaaGAllWords
import Derived.Test.YtiiodfagedcofaaGCloneD
import Derived.Test.YtiiodfagedcofaaGCounts
namespace Go.Proofs.Ytiiodfagedcofaa.G
open Go.Proofs.Ytiiodfagedcofaa.K Go Go.RowKit Go.Proofs.YtiiodfagedcofaaW.PrintWords Go.Proofs.YtiiodfagedcofaaW.PrintLast Go.Proofs.YtiiodfagedcofaaW.PrintMore
attribute [local go_sem] max2_int min2_int max_two min_two max_three min_three max_four min_four   -- for this text's walks alone
set_option linter.unusedVariables false
set_option linter.unusedSimpArgs false

/-! ### impl_in: function 36 -/
def impl_in.f (a0 : Int) (a1 : Int) (a2 : Int) : Option (Bool) := if a0 ≥ a1 then (some (decide (a0 ≤ a2))) else (some false)
set_option maxHeartbeats 8000000 in
set_option maxRecDepth 100000 in
theorem impl_in.calls (a0 : Int) (a1 : Int) (a2 : Int) (r : Bool) (w : World) (h : impl_in.f a0 a1 a2 = some r) :
  Calls Try.prog 36 #[.int .i64 a0, .int .i64 a1, .int .i64 a2] w fun e w' => e = .returned (.bool r) ∧ Drawn0 w w' := by
 have H : (if a0 ≥ a1 then (some (decide (a0 ≤ a2))) else (some false)) = some r := h
 clear h
 by_cases c4 : a0 ≥ a1
 ·rw [if_pos c4] at H
  have c4b0 : decide (a1 ≤ a0) = true := decide_eq_true c4
  clear c4
  obtain rfl := Option.some.inj H
  go_enter Try.func36, Try.ntmps36
  go_wp2
  go_ret
  exact ⟨by first | rfl | (simp; done) | (simp [*]; done), by repeat (first | exact Drawn0.refl _ | apply Drawn0.step)⟩
 ·rw [if_neg c4] at H
  have c4b0 : decide (a1 ≤ a0) = false := decide_eq_false c4
  clear c4
  obtain rfl := Option.some.inj H
  go_enter Try.func36, Try.ntmps36
  go_wp2
  go_ret
  exact ⟨by first | rfl | (simp; done) | (simp [*]; done), by repeat (first | exact Drawn0.refl _ | apply Drawn0.step)⟩
/-! ### impl_isKind: function 62 -/
def impl_isKind.f (a0 : Int) : Option (Bool) := (impl_in.f a0 1 6).bind fun t325 => (if t325 = true then (some true) else (if a0 = 15 then (some true) else (if a0 = 16 then (some true) else (if a0 = 22 then (some true) else (some (a0 == 23))))))
set_option maxHeartbeats 8000000 in
set_option maxRecDepth 100000 in
theorem impl_isKind.calls (a0 : Int) (r : Bool) (w : World) (h : impl_isKind.f a0 = some r) :
  Calls Try.prog 62 #[.int .i64 a0] w fun e w' => e = .returned (.bool r) ∧ Drawn0 w w' := by
 have H : ((impl_in.f a0 1 6).bind fun t325 => (if t325 = true then (some true) else (if a0 = 15 then (some true) else (if a0 = 16 then (some true) else (if a0 = 22 then (some true) else (some (a0 == 23))))))) = some r := h
 clear h
 replace H := Option.bind_eq_some_iff.mp H
 obtain ⟨t325, A20, H⟩ := H
 replace H : (if t325 = true then (some true) else (if a0 = 15 then (some true) else (if a0 = 16 then (some true) else (if a0 = 22 then (some true) else (some (a0 == 23)))))) = some r := H
 have A2 := aM A20
 clear A20
 by_cases c3 : t325 = true
 ·subst c3
  have H1 : (some true) = some r := by rw [if_pos rfl] at H; exact H
  clear H
  have H := H1
  clear H1
  obtain rfl := Option.some.inj H
  go_enter Try.func62, Try.ntmps62
  go_wp2_with (first | ((with_reducible refine gate_callee (f := 36) rfl ?_); refine gL (some 4) rfl rfl Try.func36 (by kernel_rfl) rfl #[.int .i64 a0, .int .i64 1, .int .i64 6] rfl ?_; (with_reducible refine (impl_in.calls a0 1 6 true _ A2.out).mono ?_); rintro e w' ⟨rfl, ⟨nd, rfl⟩⟩; refine ⟨_, rfl, ?_⟩))
  go_ret
  exact ⟨by first | rfl | (simp; done) | (simp [*]; done), by repeat (first | exact Drawn0.refl _ | apply Drawn0.step)⟩
 ·replace c3 := Bool.eq_false_iff.mpr c3
  subst c3
  have H1 : (if a0 = 15 then (some true) else (if a0 = 16 then (some true) else (if a0 = 22 then (some true) else (some (a0 == 23))))) = some r := by rw [if_neg (show ¬ (false = true) by decide)] at H; exact H
  clear H
  have H := H1
  clear H1
  by_cases c4 : a0 = 15
  ·rw [if_pos c4] at H
   have c4b0 : (a0 == 15) = true := beq_iff_eq.mpr c4
   have c4b1 : (a0 != 15) = false := bne_eq_false_iff_eq.mpr c4
   clear c4
   obtain rfl := Option.some.inj H
   go_enter Try.func62, Try.ntmps62
   go_wp2_with (first | ((with_reducible refine gate_callee (f := 36) rfl ?_); refine gL (some 4) rfl rfl Try.func36 (by kernel_rfl) rfl #[.int .i64 a0, .int .i64 1, .int .i64 6] rfl ?_; (with_reducible refine (impl_in.calls a0 1 6 false _ A2.out).mono ?_); rintro e w' ⟨rfl, ⟨nd, rfl⟩⟩; refine ⟨_, rfl, ?_⟩))
   go_ret
   exact ⟨by first | rfl | (simp; done) | (simp [*]; done), by repeat (first | exact Drawn0.refl _ | apply Drawn0.step)⟩
  ·rw [if_neg c4] at H
   have c4b0 : (a0 == 15) = false := beq_eq_false_iff_ne.mpr c4
   have c4b1 : (a0 != 15) = true := bne_iff_ne.mpr c4
   by_cases c5 : a0 = 16
   ·rw [if_pos c5] at H
    have c5b0 : (a0 == 16) = true := beq_iff_eq.mpr c5
    have c5b1 : (a0 != 16) = false := bne_eq_false_iff_eq.mpr c5
    clear c5
    obtain rfl := Option.some.inj H
    go_enter Try.func62, Try.ntmps62
    go_wp2_with (first | ((with_reducible refine gate_callee (f := 36) rfl ?_); refine gL (some 4) rfl rfl Try.func36 (by kernel_rfl) rfl #[.int .i64 a0, .int .i64 1, .int .i64 6] rfl ?_; (with_reducible refine (impl_in.calls a0 1 6 false _ A2.out).mono ?_); rintro e w' ⟨rfl, ⟨nd, rfl⟩⟩; refine ⟨_, rfl, ?_⟩))
    go_ret
    exact ⟨by first | rfl | (simp; done) | (simp [*]; done), by repeat (first | exact Drawn0.refl _ | apply Drawn0.step)⟩
   ·rw [if_neg c5] at H
    have c5b0 : (a0 == 16) = false := beq_eq_false_iff_ne.mpr c5
    have c5b1 : (a0 != 16) = true := bne_iff_ne.mpr c5
    by_cases c6 : a0 = 22
    ·rw [if_pos c6] at H
     have c6b0 : (a0 == 22) = true := beq_iff_eq.mpr c6
     have c6b1 : (a0 != 22) = false := bne_eq_false_iff_eq.mpr c6
     clear c6
     obtain rfl := Option.some.inj H
     go_enter Try.func62, Try.ntmps62
     go_wp2_with (first | ((with_reducible refine gate_callee (f := 36) rfl ?_); refine gL (some 4) rfl rfl Try.func36 (by kernel_rfl) rfl #[.int .i64 a0, .int .i64 1, .int .i64 6] rfl ?_; (with_reducible refine (impl_in.calls a0 1 6 false _ A2.out).mono ?_); rintro e w' ⟨rfl, ⟨nd, rfl⟩⟩; refine ⟨_, rfl, ?_⟩))
     go_ret
     exact ⟨by first | rfl | (simp; done) | (simp [*]; done), by repeat (first | exact Drawn0.refl _ | apply Drawn0.step)⟩
    ·rw [if_neg c6] at H
     have c6b0 : (a0 == 22) = false := beq_eq_false_iff_ne.mpr c6
     have c6b1 : (a0 != 22) = true := bne_iff_ne.mpr c6
     obtain rfl := Option.some.inj H
     go_enter Try.func62, Try.ntmps62
     go_wp2_with (first | ((with_reducible refine gate_callee (f := 36) rfl ?_); refine gL (some 4) rfl rfl Try.func36 (by kernel_rfl) rfl #[.int .i64 a0, .int .i64 1, .int .i64 6] rfl ?_; (with_reducible refine (impl_in.calls a0 1 6 false _ A2.out).mono ?_); rintro e w' ⟨rfl, ⟨nd, rfl⟩⟩; refine ⟨_, rfl, ?_⟩))
     go_ret
     exact ⟨by first | rfl | (simp; done) | (simp [*]; done), by repeat (first | exact Drawn0.refl _ | apply Drawn0.step)⟩
/-! ### impl_isWord: function 60 -/
def impl_isWord.f (a0 : Int) : Option (Bool) := (impl_in.f a0 0 65535).bind fun t324 => (some t324)
set_option maxHeartbeats 8000000 in
set_option maxRecDepth 100000 in
theorem impl_isWord.calls (a0 : Int) (r : Bool) (w : World) (h : impl_isWord.f a0 = some r) :
  Calls Try.prog 60 #[.int .i64 a0] w fun e w' => e = .returned (.bool r) ∧ Drawn0 w w' := by
 have H : ((impl_in.f a0 0 65535).bind fun t324 => (some t324)) = some r := h
 clear h
 replace H := Option.bind_eq_some_iff.mp H
 obtain ⟨t324, A20, H⟩ := H
 replace H : (some t324) = some r := H
 have A2 := aM A20
 clear A20
 obtain rfl := Option.some.inj H
 go_enter Try.func60, Try.ntmps60
 go_wp2_with (first | ((with_reducible refine gate_callee (f := 36) rfl ?_); refine gL (some 4) rfl rfl Try.func36 (by kernel_rfl) rfl #[.int .i64 a0, .int .i64 0, .int .i64 65535] rfl ?_; (with_reducible refine (impl_in.calls a0 0 65535 t324 _ A2.out).mono ?_); rintro e w' ⟨rfl, ⟨nd, rfl⟩⟩; refine ⟨_, rfl, ?_⟩))
 go_ret
 exact ⟨by first | rfl | (simp; done) | (simp [*]; done), by repeat (first | exact Drawn0.refl _ | apply Drawn0.step)⟩
/-! ### impl_cloneDevice: function 28 -/
def impl_cloneDevice.f (l0_0 : List Bool) (l0_1 : List Bool) (l0_2 : List Int) (l0_3 : List Int) : Option (List Bool × List Bool × List Int × List Int) := (slices_Clone_bool_bool.f l0_0).bind fun t311 => ((slices_Clone_bool_bool.f l0_1).bind fun t314 => ((slices_Clone_int_int.f l0_2).bind fun t317 => ((slices_Clone_int_int.f l0_3).bind fun t320 => (some (t311, t314, t317, t320)))))
def impl_cloneDevice.T1 : Bool × List (List Nat × List Nat) := (true, [([], []), ([0], [0]), ([1], [1]), ([], []), ([3], [3]), ([4, 2], [4]), ([], []), ([6], [6]), ([7, 5], [7]), ([], []), ([9], [9]), ([10, 8], [10]), ([2, 5, 8, 11], [2, 5, 8, 11]), ([12, 11, 0, 1, 2, 3, 4, 5, 6, 7, 8, 9, 10, 11, 12], [12])])
def impl_cloneDevice.B1 : List Nat := [0, 1, 3, 0, 8, 31, 0, 64, 255, 0, 512, 2047, 4095, 8191]
theorem impl_cloneDevice.tab1 : rtab .any (opsOf Try.f28 1) = impl_cloneDevice.T1 := by kernel_rfl
theorem impl_cloneDevice.bits1 : waitsOk impl_cloneDevice.T1.2 impl_cloneDevice.B1 = true := by kernel_rfl
set_option maxHeartbeats 8000000 in
set_option maxRecDepth 100000 in
theorem impl_cloneDevice.calls (A0_0 : Option Addr) (c0_0 : Nat) (l0_0 : List Bool) (A0_1 : Option Addr) (c0_1 : Nat) (l0_1 : List Bool) (A0_2 : Option Addr) (c0_2 : Nat) (l0_2 : List Int) (A0_3 : Option Addr) (c0_3 : Nat) (l0_3 : List Int) (r1 : List Bool) (r2 : List Bool) (r3 : List Int) (r4 : List Int) (w : World) (hr0_0 : Kd.C Kd.bool w A0_0 l0_0.length l0_0) (hc0_0 : l0_0.length ≤ c0_0) (hr0_1 : Kd.C Kd.bool w A0_1 l0_1.length l0_1) (hc0_1 : l0_1.length ≤ c0_1) (hr0_2 : Kd.C (Kd.int .i64) w A0_2 l0_2.length l0_2) (hc0_2 : l0_2.length ≤ c0_2) (hr0_3 : Kd.C (Kd.int .i64) w A0_3 l0_3.length l0_3) (hc0_3 : l0_3.length ≤ c0_3) (h : impl_cloneDevice.f l0_0 l0_1 l0_2 l0_3 = some (r1, r2, r3, r4)) :
  Calls Try.prog 28 #[.agg #[.slice A0_0 l0_0.length c0_0, .slice A0_1 l0_1.length c0_1, .slice A0_2 l0_2.length c0_2, .slice A0_3 l0_3.length c0_3]] w fun e w' => ∃ v0_ v1_ v2_ v3_ : Value, e = .returned (.agg #[v0_, v1_, v2_, v3_]) ∧ Kd.R Kd.bool 4 w' w.heap.size (fun k_ => some k_ ≠ (v1_ : Value).ownBlock) v0_ r1 ∧ Kd.R Kd.bool 4 w' w.heap.size (fun k_ => some k_ ≠ (v0_ : Value).ownBlock) v1_ r2 ∧ Kd.R (Kd.int .i64) 3 w' w.heap.size (fun k_ => some k_ ≠ (v3_ : Value).ownBlock) v2_ r3 ∧ Kd.R (Kd.int .i64) 3 w' w.heap.size (fun k_ => some k_ ≠ (v2_ : Value).ownBlock) v3_ r4 ∧ Below w.heap.size w w' := by
 have hu27 := Try.underlying27
 have HR0_0 := aM hr0_0
 have HC0_0 := aM hc0_0
 clear hr0_0 hc0_0
 have HR0_1 := aM hr0_1
 have HC0_1 := aM hc0_1
 clear hr0_1 hc0_1
 have HR0_2 := aM hr0_2
 have HC0_2 := aM hc0_2
 clear hr0_2 hc0_2
 have HR0_3 := aM hr0_3
 have HC0_3 := aM hc0_3
 clear hr0_3 hc0_3
 have HB := aM (Below.refl w.heap.size w)
 have H : ((slices_Clone_bool_bool.f l0_0).bind fun t311 => ((slices_Clone_bool_bool.f l0_1).bind fun t314 => ((slices_Clone_int_int.f l0_2).bind fun t317 => ((slices_Clone_int_int.f l0_3).bind fun t320 => (some (t311, t314, t317, t320)))))) = some (r1, r2, r3, r4) := h
 clear h
 replace H := Option.bind_eq_some_iff.mp H
 obtain ⟨t311, A20, H⟩ := H
 replace H : ((slices_Clone_bool_bool.f l0_1).bind fun t314 => ((slices_Clone_int_int.f l0_2).bind fun t317 => ((slices_Clone_int_int.f l0_3).bind fun t320 => (some (t311, t314, t317, t320))))) = some (r1, r2, r3, r4) := H
 have A2 := aM A20
 clear A20
 replace H := Option.bind_eq_some_iff.mp H
 obtain ⟨t314, A30, H⟩ := H
 replace H : ((slices_Clone_int_int.f l0_2).bind fun t317 => ((slices_Clone_int_int.f l0_3).bind fun t320 => (some (t311, t314, t317, t320)))) = some (r1, r2, r3, r4) := H
 have A3 := aM A30
 clear A30
 replace H := Option.bind_eq_some_iff.mp H
 obtain ⟨t317, A40, H⟩ := H
 replace H : ((slices_Clone_int_int.f l0_3).bind fun t320 => (some (t311, t314, t317, t320))) = some (r1, r2, r3, r4) := H
 have A4 := aM A40
 clear A40
 replace H := Option.bind_eq_some_iff.mp H
 obtain ⟨t320, A50, H⟩ := H
 replace H : (some (t311, t314, t317, t320)) = some (r1, r2, r3, r4) := H
 have A5 := aM A50
 clear A50
 simp only [Option.some.injEq, Prod.mk.injEq] at H
 obtain ⟨rfl, rfl, rfl, rfl⟩ := H
 go_enter Try.func28, Try.ntmps28
 try go_wp2_with (first | ((with_reducible refine gate_dst (N := 1) rfl ?_); refine box_event ?hg (N := 1) ?hd (cs := #[.slice A0_0 l0_0.length c0_0, .slice A0_1 l0_1.length c0_1, .slice A0_2 l0_2.length c0_2, .slice A0_3 l0_3.length c0_3]) (t := 27) ?hr ?_; (case hd => rfl); (case hg => rfl); (case hr => first | (go_simp; done) | (go_simp; rfl)); intro gb309 hg w6 hbox hb; have _ := aM (below_step (bS HB.out) hb); have _ := aM (hbox); have _ := aM (leG hg (bS HB.out)); have _ := aM (leG hg (bS HB.out)); clear HB; rename_i HB BK309 GW309 GE309; clear hb hbox hg) | ((with_reducible refine gate_dst (N := 2) rfl ?_); refine box_event ?hg (N := 2) ?hd (cs := #[.slice none 0 0, .slice none 0 0, .slice none 0 0, .slice none 0 0]) (t := 27) ?hr ?_; (case hd => rfl); (case hg => rfl); (case hr => first | (go_simp; done) | (go_simp; rfl)); intro gb310 hg w7 hbox hb; have _ := aM (kB BK309.out hb); have _ := aM (below_step (bS HB.out) hb); have _ := aM (hbox); have _ := aM (leG hg (bS HB.out)); have _ := aM (leG hg (bS HB.out)); have _ := aM (neL hg (kA BK309.out)); have _ := aM (neG hg (kA BK309.out)); clear BK309 HB; rename_i BK309 HB BK310 GW310 GE310 NB309_310 NB310_309; clear hb hbox hg))
 have n0_ := aM (blk_drew BK309.out)
 have n1_ := aM (blk_drew BK310.out)
 have n2_ := aM (below_drew1 HB.out)
 clear BK309
 clear BK310
 clear HB
 have BK309 := n0_
 have BK310 := n1_
 have HB := n2_
 clear n0_ n1_ n2_
 refine start_ (n := 14) (S := fun w' => w'.cell? ⟨gb309, 0, none⟩ = some (.slice A0_0 l0_0.length c0_0) ∧ w'.cell? ⟨gb309, 1, none⟩ = some (.slice A0_1 l0_1.length c0_1) ∧ w'.cell? ⟨gb309, 2, none⟩ = some (.slice A0_2 l0_2.length c0_2) ∧ w'.cell? ⟨gb309, 3, none⟩ = some (.slice A0_3 l0_3.length c0_3)) (ds := []) #[false, false, false, false, false, false, false, false, false, false, false, false, false, false] (by kernel_rfl) rfl rfl ⟨(blk_cell BK309.out 0).trans rfl, (blk_cell BK309.out 1).trans rfl, (blk_cell BK309.out 2).trans rfl, (blk_cell BK309.out 3).trans rfl⟩ (fun hHeld => ?_); refine with_tabW impl_cloneDevice.tab1 impl_cloneDevice.bits1 (fun HT_ HW_ => ?_)
 generalize w7.drew = w8 at BK309 BK310 HB hHeld ⊢
 refine pure_ (i := 0) (N := some 3) (v := ?_) (a' := ?_) #[true, false, false, false, false, false, false, false, false, false, false, false, false, false] rfl rfl (any_of HT_.out (by kernel_rfl)) (fun _ _ _ h => h) (Or.inl ⟨by rfl, ?_⟩) ?_ ?_
 rotate_left
 ·intro w'
  go_simp
  with_reducible rfl
 rotate_left
 ·simp only [Act.put, List.setIfInBounds_toArray, List.set_cons_zero, List.set_cons_succ, i64_w, i32_w]
  rfl
 refine pure_ (i := 3) (N := some 6) (v := ?_) (a' := ?_) #[true, false, false, true, false, false, false, false, false, false, false, false, false, false] rfl rfl (any_of HT_.out (by kernel_rfl)) (fun _ _ _ h => h) (Or.inl ⟨by rfl, ?_⟩) ?_ ?_
 rotate_left
 ·intro w'
  go_simp
  with_reducible rfl
 rotate_left
 ·simp only [Act.put, List.setIfInBounds_toArray, List.set_cons_zero, List.set_cons_succ, i64_w, i32_w]
  rfl
 refine pure_ (i := 6) (N := some 9) (v := ?_) (a' := ?_) #[true, false, false, true, false, false, true, false, false, false, false, false, false, false] rfl rfl (any_of HT_.out (by kernel_rfl)) (fun _ _ _ h => h) (Or.inl ⟨by rfl, ?_⟩) ?_ ?_
 rotate_left
 ·intro w'
  go_simp
  with_reducible rfl
 rotate_left
 ·simp only [Act.put, List.setIfInBounds_toArray, List.set_cons_zero, List.set_cons_succ, i64_w, i32_w]
  rfl
 refine pure_ (i := 9) (N := some 12) (v := ?_) (a' := ?_) #[true, false, false, true, false, false, true, false, false, true, false, false, false, false] rfl rfl (any_of HT_.out (by kernel_rfl)) (fun _ _ _ h => h) (Or.inl ⟨by rfl, ?_⟩) ?_ ?_
 rotate_left
 ·intro w'
  go_simp
  with_reducible rfl
 rotate_left
 ·simp only [Act.put, List.setIfInBounds_toArray, List.set_cons_zero, List.set_cons_succ, i64_w, i32_w]
  rfl
 refine take_ (i := 1) (N := some 4) (v := ?_) (a' := ?_) #[true, true, false, true, false, false, true, false, false, true, false, false, false, false] rfl rfl (take_ofW HT_.out HW_.out (by kernel_rfl)) (fun _ _ _ h => h) (Or.inl ⟨by rfl, ?_⟩) hHeld ?_ ?_
 rotate_left
 ·rintro w' ⟨s0, s1, s2, s3⟩
  go_simp
  with_reducible rfl
 rotate_left
 ·simp only [Act.put, List.setIfInBounds_toArray, List.set_cons_zero, List.set_cons_succ, i64_w, i32_w]
  rfl
 refine take_ (i := 4) (N := some 7) (v := ?_) (a' := ?_) #[true, true, false, true, true, false, true, false, false, true, false, false, false, false] rfl rfl (take_ofW HT_.out HW_.out (by kernel_rfl)) (fun _ _ _ h => h) (Or.inl ⟨by rfl, ?_⟩) hHeld ?_ ?_
 rotate_left
 ·rintro w' ⟨s0, s1, s2, s3⟩
  go_simp
  with_reducible rfl
 rotate_left
 ·simp only [Act.put, List.setIfInBounds_toArray, List.set_cons_zero, List.set_cons_succ, i64_w, i32_w]
  rfl
 refine take_ (i := 7) (N := some 10) (v := ?_) (a' := ?_) #[true, true, false, true, true, false, true, true, false, true, false, false, false, false] rfl rfl (take_ofW HT_.out HW_.out (by kernel_rfl)) (fun _ _ _ h => h) (Or.inl ⟨by rfl, ?_⟩) hHeld ?_ ?_
 rotate_left
 ·rintro w' ⟨s0, s1, s2, s3⟩
  go_simp
  with_reducible rfl
 rotate_left
 ·simp only [Act.put, List.setIfInBounds_toArray, List.set_cons_zero, List.set_cons_succ, i64_w, i32_w]
  rfl
 refine take_ (i := 10) (N := some 13) (v := ?_) (a' := ?_) #[true, true, false, true, true, false, true, true, false, true, true, false, false, false] rfl rfl (take_ofW HT_.out HW_.out (by kernel_rfl)) (fun _ _ _ h => h) (Or.inl ⟨by rfl, ?_⟩) hHeld ?_ ?_
 rotate_left
 ·rintro w' ⟨s0, s1, s2, s3⟩
  go_simp
  with_reducible rfl
 rotate_left
 ·simp only [Act.put, List.setIfInBounds_toArray, List.set_cons_zero, List.set_cons_succ, i64_w, i32_w]
  rfl
 refine one_ (i := 2) (N := some 5) #[true, true, true, true, true, false, true, true, false, true, true, false, false, false] rfl rfl (one_of HT_.out (by kernel_rfl)) (by decide) (fun K hK => ?_)
 refine goes_ Try.func56 (by kernel_rfl) rfl #[.slice A0_0 l0_0.length c0_0] (by rfl) rfl rfl (by (try simp only [List.map_toArray, List.map_cons, List.map_nil]); first | done | rfl | (simp only [List.length_drop, List.length_take]; rfl)) ?_
 with_reducible refine (slices_Clone_bool_bool.calls _ _ l0_0 t311 _ ?side1 ?side2 A2.out).mono ?_
 (case side1 => exact cB HR0_0.out HB.out)
 (case side2 => exact HC0_0.out)
 rintro e w9 ⟨v312, rfl, ho0, hb⟩
 refine ⟨_, rfl, ?_⟩
 have n0_ := aM (Kd.R_lower ho0 (below_size (bS HB.out)))
 have n1_ := aM (kB BK309.out hb)
 have n2_ := aM (kB BK310.out hb)
 have n3_ := aM (below_step (bS HB.out) hb)
 clear BK309
 clear BK310
 clear HB
 have HO313 := n0_
 have BK309 := n1_
 have BK310 := n2_
 have HB := n3_
 clear n0_ n1_ n2_ n3_
 (try clear hb)
 (try clear hb2)
 (try clear hk)
 (try clear hi)
 (try clear ho0)
 refine hK.out _ _ ⟨(blk_cell BK309.out 0).trans rfl, (blk_cell BK309.out 1).trans rfl, (blk_cell BK309.out 2).trans rfl, (blk_cell BK309.out 3).trans rfl⟩ (fun hHeld => ?_)
 clear hK K
 refine norm_ (a' := ?_) ?_ ?_
 rotate_left
 ·show Act.put _ (some 5) _ = _
  simp only [Act.put, List.setIfInBounds_toArray, List.set_cons_zero, List.set_cons_succ, i64_w, i32_w]
  rfl
 refine one_ (i := 5) (N := some 8) #[true, true, true, true, true, true, true, true, false, true, true, false, false, false] rfl rfl (one_of HT_.out (by kernel_rfl)) (by decide) (fun K hK => ?_)
 refine goes_ Try.func56 (by kernel_rfl) rfl #[.slice A0_1 l0_1.length c0_1] (by rfl) rfl rfl (by (try simp only [List.map_toArray, List.map_cons, List.map_nil]); first | done | rfl | (simp only [List.length_drop, List.length_take]; rfl)) ?_
 with_reducible refine (slices_Clone_bool_bool.calls _ _ l0_1 t314 _ ?side1 ?side2 A3.out).mono ?_
 (case side1 => exact cB HR0_1.out HB.out)
 (case side2 => exact HC0_1.out)
 rintro e w10 ⟨v315, rfl, ho0, hb⟩
 refine ⟨_, rfl, ?_⟩
 have n0_ := aM (Kd.R_elder' (rA HO313.out) (Kd.R_base ho0) hb)
 have n1_ := aM (Kd.R_lower (Kd.R_new' ho0 (Kd.R_lt (rA HO313.out))) (below_size (bS HB.out)))
 have n2_ := aM (kB BK309.out hb)
 have n3_ := aM (kB BK310.out hb)
 have n4_ := aM (below_step (bS HB.out) hb)
 clear HO313
 clear BK309
 clear BK310
 clear HB
 have HO313 := n0_
 have HO316 := n1_
 have BK309 := n2_
 have BK310 := n3_
 have HB := n4_
 clear n0_ n1_ n2_ n3_ n4_
 (try clear hb)
 (try clear hb2)
 (try clear hk)
 (try clear hi)
 (try clear ho0)
 refine hK.out _ _ ⟨(blk_cell BK309.out 0).trans rfl, (blk_cell BK309.out 1).trans rfl, (blk_cell BK309.out 2).trans rfl, (blk_cell BK309.out 3).trans rfl⟩ (fun hHeld => ?_)
 clear hK K
 refine norm_ (a' := ?_) ?_ ?_
 rotate_left
 ·show Act.put _ (some 8) _ = _
  simp only [Act.put, List.setIfInBounds_toArray, List.set_cons_zero, List.set_cons_succ, i64_w, i32_w]
  rfl
 refine one_ (i := 8) (N := some 11) #[true, true, true, true, true, true, true, true, true, true, true, false, false, false] rfl rfl (one_of HT_.out (by kernel_rfl)) (by decide) (fun K hK => ?_)
 refine goes_ Try.func57 (by kernel_rfl) rfl #[.slice A0_2 l0_2.length c0_2] (by rfl) rfl rfl (by (try simp only [List.map_toArray, List.map_cons, List.map_nil]); first | done | rfl | (simp only [List.length_drop, List.length_take]; rfl)) ?_
 with_reducible refine (slices_Clone_int_int.calls _ _ l0_2 t317 _ ?side1 ?side2 A4.out).mono ?_
 (case side1 => exact cB HR0_2.out HB.out)
 (case side2 => exact HC0_2.out)
 rintro e w11 ⟨v318, rfl, ho0, hb⟩
 refine ⟨_, rfl, ?_⟩
 have n0_ := aM (rB HO313.out hb)
 have n1_ := aM (rB HO316.out hb)
 have n2_ := aM (Kd.R_lower ho0 (below_size (bS HB.out)))
 have n3_ := aM (kB BK309.out hb)
 have n4_ := aM (kB BK310.out hb)
 have n5_ := aM (below_step (bS HB.out) hb)
 clear HO313
 clear HO316
 clear BK309
 clear BK310
 clear HB
 have HO313 := n0_
 have HO316 := n1_
 have HO319 := n2_
 have BK309 := n3_
 have BK310 := n4_
 have HB := n5_
 clear n0_ n1_ n2_ n3_ n4_ n5_
 (try clear hb)
 (try clear hb2)
 (try clear hk)
 (try clear hi)
 (try clear ho0)
 refine hK.out _ _ ⟨(blk_cell BK309.out 0).trans rfl, (blk_cell BK309.out 1).trans rfl, (blk_cell BK309.out 2).trans rfl, (blk_cell BK309.out 3).trans rfl⟩ (fun hHeld => ?_)
 clear hK K
 refine norm_ (a' := ?_) ?_ ?_
 rotate_left
 ·show Act.put _ (some 11) _ = _
  simp only [Act.put, List.setIfInBounds_toArray, List.set_cons_zero, List.set_cons_succ, i64_w, i32_w]
  rfl
 refine one_ (i := 11) (N := some 14) #[true, true, true, true, true, true, true, true, true, true, true, true, false, false] rfl rfl (one_of HT_.out (by kernel_rfl)) (by decide) (fun K hK => ?_)
 refine goes_ Try.func57 (by kernel_rfl) rfl #[.slice A0_3 l0_3.length c0_3] (by rfl) rfl rfl (by (try simp only [List.map_toArray, List.map_cons, List.map_nil]); first | done | rfl | (simp only [List.length_drop, List.length_take]; rfl)) ?_
 with_reducible refine (slices_Clone_int_int.calls _ _ l0_3 t320 _ ?side1 ?side2 A5.out).mono ?_
 (case side1 => exact cB HR0_3.out HB.out)
 (case side2 => exact HC0_3.out)
 rintro e w12 ⟨v321, rfl, ho0, hb⟩
 refine ⟨_, rfl, ?_⟩
 have n0_ := aM (rB HO313.out hb)
 have n1_ := aM (rB HO316.out hb)
 have n2_ := aM (Kd.R_elder' (rA HO319.out) (Kd.R_base ho0) hb)
 have n3_ := aM (Kd.R_lower (Kd.R_new' ho0 (Kd.R_lt (rA HO319.out))) (below_size (bS HB.out)))
 have n4_ := aM (kB BK309.out hb)
 have n5_ := aM (kB BK310.out hb)
 have n6_ := aM (below_step (bS HB.out) hb)
 clear HO313
 clear HO316
 clear HO319
 clear BK309
 clear BK310
 clear HB
 have HO313 := n0_
 have HO316 := n1_
 have HO319 := n2_
 have HO322 := n3_
 have BK309 := n4_
 have BK310 := n5_
 have HB := n6_
 clear n0_ n1_ n2_ n3_ n4_ n5_ n6_
 (try clear hb)
 (try clear hb2)
 (try clear hk)
 (try clear hi)
 (try clear ho0)
 obtain ⟨Ao13, co13, eo13⟩ := Kd.R_slice HO322.out
 (first | subst eo13 | (injection eo13 with f1_ f2_ f3_; have f4_ := f1_.symm; have f5_ := f3_.symm; clear f1_ f2_ f3_; subst f4_; subst f5_))
 obtain ⟨Ao14, co14, eo14⟩ := Kd.R_slice HO319.out
 (first | subst eo14 | (injection eo14 with f1_ f2_ f3_; have f4_ := f1_.symm; have f5_ := f3_.symm; clear f1_ f2_ f3_; subst f4_; subst f5_))
 obtain ⟨Ao15, co15, eo15⟩ := Kd.R_slice HO316.out
 (first | subst eo15 | (injection eo15 with f1_ f2_ f3_; have f4_ := f1_.symm; have f5_ := f3_.symm; clear f1_ f2_ f3_; subst f4_; subst f5_))
 obtain ⟨Ao16, co16, eo16⟩ := Kd.R_slice HO313.out
 (first | subst eo16 | (injection eo16 with f1_ f2_ f3_; have f4_ := f1_.symm; have f5_ := f3_.symm; clear f1_ f2_ f3_; subst f4_; subst f5_))
 refine hK.out _ _ ⟨(blk_cell BK309.out 0).trans rfl, (blk_cell BK309.out 1).trans rfl, (blk_cell BK309.out 2).trans rfl, (blk_cell BK309.out 3).trans rfl⟩ (fun hHeld => ?_)
 clear hK K
 refine norm_ (a' := ?_) ?_ ?_
 rotate_left
 ·show Act.put _ (some 14) _ = _
  simp only [Act.put, List.setIfInBounds_toArray, List.set_cons_zero, List.set_cons_succ, i64_w, i32_w]
  rfl
 refine pure_ (i := 12) (N := some 15) (v := ?_) (a' := ?_) #[true, true, true, true, true, true, true, true, true, true, true, true, true, false] rfl rfl (any_of HT_.out (by kernel_rfl)) (fun _ _ _ h => h) (Or.inl ⟨by rfl, ?_⟩) ?_ ?_
 rotate_left
 ·intro w'
  go_simp
  with_reducible rfl
 rotate_left
 ·simp only [Act.put, List.setIfInBounds_toArray, List.set_cons_zero, List.set_cons_succ, i64_w, i32_w]
  rfl
 refine one_ (i := 13) (N := none) #[true, true, true, true, true, true, true, true, true, true, true, true, true, true] rfl rfl (one_of HT_.out (by kernel_rfl)) (by decide) (fun K hK => ?_)
 have hs17 : w12.cell? ⟨gb310, 0, none⟩ = some (.slice none 0 0) := (blk_cell BK310.out 0).trans rfl
 have hfs17 := blk_frozen BK310.out 0
 have hns17_0 := NB309_310.out
 have hms17_0 := NB310_309.out
 have hs18 : w12.cell? ⟨gb310, 1, none⟩ = some (.slice none 0 0) := (blk_cell BK310.out 1).trans rfl
 have hfs18 := blk_frozen BK310.out 1
 have hns18_0 := NB309_310.out
 have hms18_0 := NB310_309.out
 have hs19 : w12.cell? ⟨gb310, 2, none⟩ = some (.slice none 0 0) := (blk_cell BK310.out 2).trans rfl
 have hfs19 := blk_frozen BK310.out 2
 have hns19_0 := NB309_310.out
 have hms19_0 := NB310_309.out
 have hs20 : w12.cell? ⟨gb310, 3, none⟩ = some (.slice none 0 0) := (blk_cell BK310.out 3).trans rfl
 have hfs20 := blk_frozen BK310.out 3
 have hns20_0 := NB309_310.out
 have hms20_0 := NB310_309.out
 refine skip_ (w1 := ?_) (by rfl) rfl ?_ ?_
 rotate_left
 ·go_simp
  rfl
 refine hK.out _ _ ⟨((cell_far (p := ⟨gb310, _, none⟩) NB309_310.out _).trans (((cell_far (p := ⟨gb310, _, none⟩) NB309_310.out _).trans (((cell_far (p := ⟨gb310, _, none⟩) NB309_310.out _).trans (((cell_far (p := ⟨gb310, _, none⟩) NB309_310.out _).trans (hHeld.1)))))))), ((cell_far (p := ⟨gb310, _, none⟩) NB309_310.out _).trans (((cell_far (p := ⟨gb310, _, none⟩) NB309_310.out _).trans (((cell_far (p := ⟨gb310, _, none⟩) NB309_310.out _).trans (((cell_far (p := ⟨gb310, _, none⟩) NB309_310.out _).trans (hHeld.2.1)))))))), ((cell_far (p := ⟨gb310, _, none⟩) NB309_310.out _).trans (((cell_far (p := ⟨gb310, _, none⟩) NB309_310.out _).trans (((cell_far (p := ⟨gb310, _, none⟩) NB309_310.out _).trans (((cell_far (p := ⟨gb310, _, none⟩) NB309_310.out _).trans (hHeld.2.2.1)))))))), ((cell_far (p := ⟨gb310, _, none⟩) NB309_310.out _).trans (((cell_far (p := ⟨gb310, _, none⟩) NB309_310.out _).trans (((cell_far (p := ⟨gb310, _, none⟩) NB309_310.out _).trans (((cell_far (p := ⟨gb310, _, none⟩) NB309_310.out _).trans (hHeld.2.2.2))))))))⟩ (fun hHeld => ?_)
 clear hK K
 refine done_ (done_of HT_.out (by kernel_rfl)) ?_
 try go_wp2
 refine bodyPost_ret (results_cell_row rfl _ _ gb310 27 #[.slice Ao16 t311.length co16, .slice Ao15 t314.length co15, .slice Ao14 t317.length co14, .slice Ao13 t320.length co13] (0, 0) _ rfl (kP4 BK310.out) Try.underlying27 rfl (by kernel_rfl)) rfl ?_
 exact ⟨_, _, _, _, by first | rfl | (simp [errW_none, errW_some] <;> rfl) | (simp [*, errW_none, errW_some] <;> rfl), by (with_reducible repeat (first | apply Kd.R_alloc | apply Kd.R_drewN | apply Kd.R_drew)); exact Kd.R_mono (Kd.R_far (p := ⟨gb310, 3, none⟩) (Kd.R_far (p := ⟨gb310, 2, none⟩) (Kd.R_far (p := ⟨gb310, 1, none⟩) (Kd.R_far (p := ⟨gb310, 0, none⟩) (Kd.R_types HO313.out BK310.out (by decide)) (fun _ hk => hk.2) (.slice Ao16 t311.length co16)) (fun _ hk => hk.2) (.slice Ao15 t314.length co15)) (fun _ hk => hk.2) (.slice Ao14 t317.length co14)) (fun _ hk => hk.2) (.slice Ao13 t320.length co13)) (fun _ hk => hk.1.2), by (with_reducible repeat (first | apply Kd.R_alloc | apply Kd.R_drewN | apply Kd.R_drew)); exact Kd.R_mono (Kd.R_far (p := ⟨gb310, 3, none⟩) (Kd.R_far (p := ⟨gb310, 2, none⟩) (Kd.R_far (p := ⟨gb310, 1, none⟩) (Kd.R_far (p := ⟨gb310, 0, none⟩) (Kd.R_types HO316.out BK310.out (by decide)) (fun _ hk => hk.2) (.slice Ao16 t311.length co16)) (fun _ hk => hk.2) (.slice Ao15 t314.length co15)) (fun _ hk => hk.2) (.slice Ao14 t317.length co14)) (fun _ hk => hk.2) (.slice Ao13 t320.length co13)) (fun _ hk => hk.1.2), by (with_reducible repeat (first | apply Kd.R_alloc | apply Kd.R_drewN | apply Kd.R_drew)); exact Kd.R_mono (Kd.R_far (p := ⟨gb310, 3, none⟩) (Kd.R_far (p := ⟨gb310, 2, none⟩) (Kd.R_far (p := ⟨gb310, 1, none⟩) (Kd.R_far (p := ⟨gb310, 0, none⟩) (Kd.R_types HO319.out BK310.out (by decide)) (fun _ hk => hk.2) (.slice Ao16 t311.length co16)) (fun _ hk => hk.2) (.slice Ao15 t314.length co15)) (fun _ hk => hk.2) (.slice Ao14 t317.length co14)) (fun _ hk => hk.2) (.slice Ao13 t320.length co13)) (fun _ hk => hk.1.2), by (with_reducible repeat (first | apply Kd.R_alloc | apply Kd.R_drewN | apply Kd.R_drew)); exact Kd.R_mono (Kd.R_far (p := ⟨gb310, 3, none⟩) (Kd.R_far (p := ⟨gb310, 2, none⟩) (Kd.R_far (p := ⟨gb310, 1, none⟩) (Kd.R_far (p := ⟨gb310, 0, none⟩) (Kd.R_types HO322.out BK310.out (by decide)) (fun _ hk => hk.2) (.slice Ao16 t311.length co16)) (fun _ hk => hk.2) (.slice Ao15 t314.length co15)) (fun _ hk => hk.2) (.slice Ao14 t317.length co14)) (fun _ hk => hk.2) (.slice Ao13 t320.length co13)) (fun _ hk => hk.1.2), bS HB.out⟩
/-! ### impl_DeviceOk: function 12 -/
def impl_DeviceOk.f (l0_0 : List Bool) (l0_1 : List Bool) (l0_2 : List Int) (l0_3 : List Int) : Option (Bool) := if (l0_0.length : Int) ≤ 64 then (if (l0_1.length : Int) ≤ 64 then (if (l0_2.length : Int) ≤ 64 then (if (l0_3.length : Int) ≤ 64 then ((impl_allWords.f l0_2).bind fun t307 => (if t307 = true then ((impl_allWords.f l0_3).bind fun t308 => (some t308)) else (some false))) else (some false)) else (some false)) else (some false)) else (some false)
set_option maxHeartbeats 8000000 in
set_option maxRecDepth 100000 in
theorem impl_DeviceOk.calls (A0_0 : Option Addr) (c0_0 : Nat) (l0_0 : List Bool) (A0_1 : Option Addr) (c0_1 : Nat) (l0_1 : List Bool) (A0_2 : Option Addr) (c0_2 : Nat) (l0_2 : List Int) (A0_3 : Option Addr) (c0_3 : Nat) (l0_3 : List Int) (r : Bool) (w : World) (hr0_0 : Kd.C Kd.bool w A0_0 l0_0.length l0_0) (hc0_0 : l0_0.length ≤ c0_0) (hr0_1 : Kd.C Kd.bool w A0_1 l0_1.length l0_1) (hc0_1 : l0_1.length ≤ c0_1) (hr0_2 : Kd.C (Kd.int .i64) w A0_2 l0_2.length l0_2) (hc0_2 : l0_2.length ≤ c0_2) (hr0_3 : Kd.C (Kd.int .i64) w A0_3 l0_3.length l0_3) (hc0_3 : l0_3.length ≤ c0_3) (h : impl_DeviceOk.f l0_0 l0_1 l0_2 l0_3 = some r) :
  Calls Try.prog 12 #[.agg #[.slice A0_0 l0_0.length c0_0, .slice A0_1 l0_1.length c0_1, .slice A0_2 l0_2.length c0_2, .slice A0_3 l0_3.length c0_3]] w fun e w' => e = .returned (.bool r) ∧ Below w.heap.size w w' := by
 have hu27 := Try.underlying27
 have HR0_0 := aM hr0_0
 have HC0_0 := aM hc0_0
 clear hr0_0 hc0_0
 have HR0_1 := aM hr0_1
 have HC0_1 := aM hc0_1
 clear hr0_1 hc0_1
 have HR0_2 := aM hr0_2
 have HC0_2 := aM hc0_2
 clear hr0_2 hc0_2
 have HR0_3 := aM hr0_3
 have HC0_3 := aM hc0_3
 clear hr0_3 hc0_3
 have HB := aM (Below.refl w.heap.size w)
 have H : (if (l0_0.length : Int) ≤ 64 then (if (l0_1.length : Int) ≤ 64 then (if (l0_2.length : Int) ≤ 64 then (if (l0_3.length : Int) ≤ 64 then ((impl_allWords.f l0_2).bind fun t307 => (if t307 = true then ((impl_allWords.f l0_3).bind fun t308 => (some t308)) else (some false))) else (some false)) else (some false)) else (some false)) else (some false)) = some r := h
 clear h
 by_cases c2 : (l0_0.length : Int) ≤ 64
 ·rw [if_pos c2] at H
  have c2b0 : decide ((l0_0.length : Int) ≤ 64) = true := decide_eq_true c2
  have c2b1 : decide (l0_0.length ≤ 64) = true := decide_eq_true (by omega)
  clear c2
  by_cases c3 : (l0_1.length : Int) ≤ 64
  ·rw [if_pos c3] at H
   have c3b0 : decide ((l0_1.length : Int) ≤ 64) = true := decide_eq_true c3
   have c3b1 : decide (l0_1.length ≤ 64) = true := decide_eq_true (by omega)
   clear c3
   by_cases c4 : (l0_2.length : Int) ≤ 64
   ·rw [if_pos c4] at H
    have c4b0 : decide ((l0_2.length : Int) ≤ 64) = true := decide_eq_true c4
    have c4b1 : decide (l0_2.length ≤ 64) = true := decide_eq_true (by omega)
    clear c4
    by_cases c5 : (l0_3.length : Int) ≤ 64
    ·rw [if_pos c5] at H
     have c5b0 : decide ((l0_3.length : Int) ≤ 64) = true := decide_eq_true c5
     have c5b1 : decide (l0_3.length ≤ 64) = true := decide_eq_true (by omega)
     clear c5
     replace H := Option.bind_eq_some_iff.mp H
     obtain ⟨t307, A60, H⟩ := H
     replace H : (if t307 = true then ((impl_allWords.f l0_3).bind fun t308 => (some t308)) else (some false)) = some r := H
     have A6 := aM A60
     clear A60
     by_cases c7 : t307 = true
     ·subst c7
      have H1 : ((impl_allWords.f l0_3).bind fun t308 => (some t308)) = some r := by rw [if_pos rfl] at H; exact H
      clear H
      have H := H1
      clear H1
      replace H := Option.bind_eq_some_iff.mp H
      obtain ⟨t308, A80, H⟩ := H
      replace H : (some t308) = some r := H
      have A8 := aM A80
      clear A80
      obtain rfl := Option.some.inj H
      go_enter Try.func12, Try.ntmps12
      go_wp2_with (first | ((with_reducible refine gate_dst (N := 1) rfl ?_); (try (refine gate_guard (by rfl) ?_; dsimp only)); refine box_event ?hg (N := 1) ?hd (cs := #[.slice A0_0 l0_0.length c0_0, .slice A0_1 l0_1.length c0_1, .slice A0_2 l0_2.length c0_2, .slice A0_3 l0_3.length c0_3]) (t := 27) ?hr ?_; (case hd => rfl); (case hg => rfl); (case hr => first | (go_simp; done) | (go_simp; rfl)); intro gb306 hg w9 hbox hb; have _ := aM (below_step (bS HB.out) hb); have _ := aM (hbox); have _ := aM (leG hg (bS HB.out)); have _ := aM (leG hg (bS HB.out)); clear HB; rename_i HB BK306 GW306 GE306; clear hb hbox hg; obtain ⟨hcz10_0, hfz10_0, hcz10_1, hfz10_1, hcz10_2, hfz10_2, hcz10_3, hfz10_3⟩ := bk4 BK306.out) | (go_at_call 31; (with_reducible refine (impl_allWords.calls _ _ l0_2 true _ ?side1 ?side2 A6.out).mono ?_); (case side1 => exact cB HR0_2.out HB.out); (case side2 => exact HC0_2.out); rintro e w' ⟨rfl, ⟨nd, rfl⟩⟩) | (go_at_call 31; (with_reducible refine (impl_allWords.calls _ _ l0_3 t308 _ ?side1 ?side2 A8.out).mono ?_); (case side1 => repeat (first | exact (Kd.C_below HR0_3.out (bS HB.out)) | (with_reducible refine Kd.C_alloc ?_ _) | (with_reducible refine Kd.C_drewN ?_ _) | (with_reducible refine Kd.C_drew ?_))); (case side2 => exact HC0_3.out); rintro e w' ⟨rfl, ⟨nd, rfl⟩⟩))
      go_ret
      exact ⟨by first | rfl | (simp [errW_none, errW_some] <;> rfl) | (simp [*, errW_none, errW_some] <;> rfl), bS HB.out⟩
     ·replace c7 := Bool.eq_false_iff.mpr c7
      subst c7
      have H1 : (some false) = some r := by rw [if_neg (show ¬ (false = true) by decide)] at H; exact H
      clear H
      have H := H1
      clear H1
      obtain rfl := Option.some.inj H
      go_enter Try.func12, Try.ntmps12
      go_wp2_with (first | ((with_reducible refine gate_dst (N := 1) rfl ?_); (try (refine gate_guard (by rfl) ?_; dsimp only)); refine box_event ?hg (N := 1) ?hd (cs := #[.slice A0_0 l0_0.length c0_0, .slice A0_1 l0_1.length c0_1, .slice A0_2 l0_2.length c0_2, .slice A0_3 l0_3.length c0_3]) (t := 27) ?hr ?_; (case hd => rfl); (case hg => rfl); (case hr => first | (go_simp; done) | (go_simp; rfl)); intro gb306 hg w11 hbox hb; have _ := aM (below_step (bS HB.out) hb); have _ := aM (hbox); have _ := aM (leG hg (bS HB.out)); have _ := aM (leG hg (bS HB.out)); clear HB; rename_i HB BK306 GW306 GE306; clear hb hbox hg; obtain ⟨hcz12_0, hfz12_0, hcz12_1, hfz12_1, hcz12_2, hfz12_2, hcz12_3, hfz12_3⟩ := bk4 BK306.out) | (go_at_call 31; (with_reducible refine (impl_allWords.calls _ _ l0_2 false _ ?side1 ?side2 A6.out).mono ?_); (case side1 => exact cB HR0_2.out HB.out); (case side2 => exact HC0_2.out); rintro e w' ⟨rfl, ⟨nd, rfl⟩⟩))
      go_ret
      exact ⟨by first | rfl | (simp [errW_none, errW_some] <;> rfl) | (simp [*, errW_none, errW_some] <;> rfl), bS HB.out⟩
    ·rw [if_neg c5] at H
     have c5b0 : decide ((l0_3.length : Int) ≤ 64) = false := decide_eq_false c5
     have c5b1 : decide (l0_3.length ≤ 64) = false := decide_eq_false (by omega)
     clear c5
     obtain rfl := Option.some.inj H
     go_enter Try.func12, Try.ntmps12
     go_wp2_with (first | ((with_reducible refine gate_dst (N := 1) rfl ?_); (try (refine gate_guard (by rfl) ?_; dsimp only)); refine box_event ?hg (N := 1) ?hd (cs := #[.slice A0_0 l0_0.length c0_0, .slice A0_1 l0_1.length c0_1, .slice A0_2 l0_2.length c0_2, .slice A0_3 l0_3.length c0_3]) (t := 27) ?hr ?_; (case hd => rfl); (case hg => rfl); (case hr => first | (go_simp; done) | (go_simp; rfl)); intro gb306 hg w13 hbox hb; have _ := aM (below_step (bS HB.out) hb); have _ := aM (hbox); have _ := aM (leG hg (bS HB.out)); have _ := aM (leG hg (bS HB.out)); clear HB; rename_i HB BK306 GW306 GE306; clear hb hbox hg; obtain ⟨hcz14_0, hfz14_0, hcz14_1, hfz14_1, hcz14_2, hfz14_2, hcz14_3, hfz14_3⟩ := bk4 BK306.out))
     go_ret
     exact ⟨by first | rfl | (simp [errW_none, errW_some] <;> rfl) | (simp [*, errW_none, errW_some] <;> rfl), bS HB.out⟩
   ·rw [if_neg c4] at H
    have c4b0 : decide ((l0_2.length : Int) ≤ 64) = false := decide_eq_false c4
    have c4b1 : decide (l0_2.length ≤ 64) = false := decide_eq_false (by omega)
    clear c4
    obtain rfl := Option.some.inj H
    go_enter Try.func12, Try.ntmps12
    go_wp2_with (first | ((with_reducible refine gate_dst (N := 1) rfl ?_); (try (refine gate_guard (by rfl) ?_; dsimp only)); refine box_event ?hg (N := 1) ?hd (cs := #[.slice A0_0 l0_0.length c0_0, .slice A0_1 l0_1.length c0_1, .slice A0_2 l0_2.length c0_2, .slice A0_3 l0_3.length c0_3]) (t := 27) ?hr ?_; (case hd => rfl); (case hg => rfl); (case hr => first | (go_simp; done) | (go_simp; rfl)); intro gb306 hg w15 hbox hb; have _ := aM (below_step (bS HB.out) hb); have _ := aM (hbox); have _ := aM (leG hg (bS HB.out)); have _ := aM (leG hg (bS HB.out)); clear HB; rename_i HB BK306 GW306 GE306; clear hb hbox hg; obtain ⟨hcz16_0, hfz16_0, hcz16_1, hfz16_1, hcz16_2, hfz16_2, hcz16_3, hfz16_3⟩ := bk4 BK306.out))
    go_ret
    exact ⟨by first | rfl | (simp [errW_none, errW_some] <;> rfl) | (simp [*, errW_none, errW_some] <;> rfl), bS HB.out⟩
  ·rw [if_neg c3] at H
   have c3b0 : decide ((l0_1.length : Int) ≤ 64) = false := decide_eq_false c3
   have c3b1 : decide (l0_1.length ≤ 64) = false := decide_eq_false (by omega)
   clear c3
   obtain rfl := Option.some.inj H
   go_enter Try.func12, Try.ntmps12
   go_wp2_with (first | ((with_reducible refine gate_dst (N := 1) rfl ?_); (try (refine gate_guard (by rfl) ?_; dsimp only)); refine box_event ?hg (N := 1) ?hd (cs := #[.slice A0_0 l0_0.length c0_0, .slice A0_1 l0_1.length c0_1, .slice A0_2 l0_2.length c0_2, .slice A0_3 l0_3.length c0_3]) (t := 27) ?hr ?_; (case hd => rfl); (case hg => rfl); (case hr => first | (go_simp; done) | (go_simp; rfl)); intro gb306 hg w17 hbox hb; have _ := aM (below_step (bS HB.out) hb); have _ := aM (hbox); have _ := aM (leG hg (bS HB.out)); have _ := aM (leG hg (bS HB.out)); clear HB; rename_i HB BK306 GW306 GE306; clear hb hbox hg; obtain ⟨hcz18_0, hfz18_0, hcz18_1, hfz18_1, hcz18_2, hfz18_2, hcz18_3, hfz18_3⟩ := bk4 BK306.out))
   go_ret
   exact ⟨by first | rfl | (simp [errW_none, errW_some] <;> rfl) | (simp [*, errW_none, errW_some] <;> rfl), bS HB.out⟩
 ·rw [if_neg c2] at H
  have c2b0 : decide ((l0_0.length : Int) ≤ 64) = false := decide_eq_false c2
  have c2b1 : decide (l0_0.length ≤ 64) = false := decide_eq_false (by omega)
  clear c2
  obtain rfl := Option.some.inj H
  go_enter Try.func12, Try.ntmps12
  go_wp2_with (first | ((with_reducible refine gate_dst (N := 1) rfl ?_); (try (refine gate_guard (by rfl) ?_; dsimp only)); refine box_event ?hg (N := 1) ?hd (cs := #[.slice A0_0 l0_0.length c0_0, .slice A0_1 l0_1.length c0_1, .slice A0_2 l0_2.length c0_2, .slice A0_3 l0_3.length c0_3]) (t := 27) ?hr ?_; (case hd => rfl); (case hg => rfl); (case hr => first | (go_simp; done) | (go_simp; rfl)); intro gb306 hg w19 hbox hb; have _ := aM (below_step (bS HB.out) hb); have _ := aM (hbox); have _ := aM (leG hg (bS HB.out)); have _ := aM (leG hg (bS HB.out)); clear HB; rename_i HB BK306 GW306 GE306; clear hb hbox hg; obtain ⟨hcz20_0, hfz20_0, hcz20_1, hfz20_1, hcz20_2, hfz20_2, hcz20_3, hfz20_3⟩ := bk4 BK306.out))
  go_ret
  exact ⟨by first | rfl | (simp [errW_none, errW_some] <;> rfl) | (simp [*, errW_none, errW_some] <;> rfl), bS HB.out⟩
/-! ### impl_written: function 41 -/
def impl_written.f (a0_0 : Int) (a0_1 : Int) (a0_2 : Int) (l0_3 : List Int) (l0_4 : List Bool) (a0_5 : Int) : Option (Int) := if a0_0 = 22 then (some 1) else (some (wrap64 ((l0_3.length : Int) + (l0_4.length : Int))))
set_option maxHeartbeats 8000000 in
set_option maxRecDepth 100000 in
theorem impl_written.calls (a0_0 : Int) (a0_1 : Int) (a0_2 : Int) (A0_3 : Option Addr) (c0_3 : Nat) (l0_3 : List Int) (A0_4 : Option Addr) (c0_4 : Nat) (l0_4 : List Bool) (a0_5 : Int) (r : Int) (w : World) (hr0_3 : Kd.C (Kd.int .i64) w A0_3 l0_3.length l0_3) (hc0_3 : l0_3.length ≤ c0_3) (hr0_4 : Kd.C Kd.bool w A0_4 l0_4.length l0_4) (hc0_4 : l0_4.length ≤ c0_4) (h : impl_written.f a0_0 a0_1 a0_2 l0_3 l0_4 a0_5 = some r) :
  Calls Try.prog 41 #[.agg #[.int .i64 a0_0, .int .i64 a0_1, .int .i64 a0_2, .slice A0_3 l0_3.length c0_3, .slice A0_4 l0_4.length c0_4, .int .i64 a0_5]] w fun e w' => e = .returned (.int .i64 r) ∧ Below w.heap.size w w' := by
 have hu41 := Try.underlying41
 have HR0_3 := aM hr0_3
 have HC0_3 := aM hc0_3
 clear hr0_3 hc0_3
 have HR0_4 := aM hr0_4
 have HC0_4 := aM hc0_4
 clear hr0_4 hc0_4
 have HB := aM (Below.refl w.heap.size w)
 have H : (if a0_0 = 22 then (some 1) else (some (wrap64 ((l0_3.length : Int) + (l0_4.length : Int))))) = some r := h
 clear h
 by_cases c2 : a0_0 = 22
 ·rw [if_pos c2] at H
  have c2b0 : (a0_0 == 22) = true := beq_iff_eq.mpr c2
  have c2b1 : (a0_0 != 22) = false := bne_eq_false_iff_eq.mpr c2
  clear c2
  obtain rfl := Option.some.inj H
  go_enter Try.func41, Try.ntmps41
  go_wp2_with (first | ((with_reducible refine gate_dst (N := 1) rfl ?_); refine box_event ?hg (N := 1) ?hd (cs := #[.int .i64 a0_0, .int .i64 a0_1, .int .i64 a0_2, .slice A0_3 l0_3.length c0_3, .slice A0_4 l0_4.length c0_4, .int .i64 a0_5]) (t := 41) ?hr ?_; (case hd => rfl); (case hg => rfl); (case hr => first | (go_simp; done) | (go_simp; rfl)); intro gb323 hg w3 hbox hb; have _ := aM (below_step (bS HB.out) hb); have _ := aM (hbox); have _ := aM (leG hg (bS HB.out)); have _ := aM (leG hg (bS HB.out)); clear HB; rename_i HB BK323 GW323 GE323; clear hb hbox hg; obtain ⟨hcz4_0, hfz4_0, hcz4_1, hfz4_1, hcz4_2, hfz4_2, hcz4_3, hfz4_3, hcz4_4, hfz4_4, hcz4_5, hfz4_5⟩ := bk6 BK323.out))
  go_ret
  exact ⟨by first | rfl | (simp [errW_none, errW_some] <;> rfl) | (simp [*, errW_none, errW_some] <;> rfl), bS HB.out⟩
 ·rw [if_neg c2] at H
  have c2b0 : (a0_0 == 22) = false := beq_eq_false_iff_ne.mpr c2
  have c2b1 : (a0_0 != 22) = true := bne_iff_ne.mpr c2
  obtain rfl := Option.some.inj H
  go_enter Try.func41, Try.ntmps41
  go_wp2_with (first | ((with_reducible refine gate_dst (N := 1) rfl ?_); refine box_event ?hg (N := 1) ?hd (cs := #[.int .i64 a0_0, .int .i64 a0_1, .int .i64 a0_2, .slice A0_3 l0_3.length c0_3, .slice A0_4 l0_4.length c0_4, .int .i64 a0_5]) (t := 41) ?hr ?_; (case hd => rfl); (case hg => rfl); (case hr => first | (go_simp; done) | (go_simp; rfl)); intro gb323 hg w5 hbox hb; have _ := aM (below_step (bS HB.out) hb); have _ := aM (hbox); have _ := aM (leG hg (bS HB.out)); have _ := aM (leG hg (bS HB.out)); clear HB; rename_i HB BK323 GW323 GE323; clear hb hbox hg; obtain ⟨hcz6_0, hfz6_0, hcz6_1, hfz6_1, hcz6_2, hfz6_2, hcz6_3, hfz6_3, hcz6_4, hfz6_4, hcz6_5, hfz6_5⟩ := bk6 BK323.out))
  go_ret
  exact ⟨by first | rfl | (simp [errW_none, errW_some] <;> rfl) | (simp [*, errW_none, errW_some] <;> rfl), bS HB.out⟩
/-! ### impl_ReqOk: function 37 -/
mutual
def impl_ReqOk.j0 : Nat → Bool → Int → Int → Int → List Int → List Bool → Int → Option (Bool)
 | 0, _, _, _, _, _, _, _ => none
 | k + 1, x48, x327000, x327001, x327002, x327003, x327004, x327005 => if x48 = true then (some false) else ((impl_isWord.f x327001).bind fun t340 => (if t340 = true then ((impl_isWord.f x327005).bind fun t341 => (if t341 = true then ((impl_allWords.f x327003).bind fun t342 => (if t342 = true then (impl_ReqOk.j1 k (decide ((wrap64 (x327001 + x327002)) > 65536)) x327000 x327001 x327002 x327003 x327004 x327005) else (impl_ReqOk.j1 k true x327000 x327001 x327002 x327003 x327004 x327005))) else (impl_ReqOk.j1 k true x327000 x327001 x327002 x327003 x327004 x327005))) else (impl_ReqOk.j1 k true x327000 x327001 x327002 x327003 x327004 x327005)))
def impl_ReqOk.j1 : Nat → Bool → Int → Int → Int → List Int → List Bool → Int → Option (Bool)
 | 0, _, _, _, _, _, _, _ => none
 | k + 1, x72, x327000, x327001, x327002, x327003, x327004, x327005 => if x72 = true then (some false) else (if x327000 = 23 then ((impl_written.f x327000 x327001 x327002 x327003 x327004 x327005).bind fun t343 => (some (decide ((wrap64 (x327005 + t343)) ≤ 65536)))) else (if x327005 = 0 then ((impl_written.f x327000 x327001 x327002 x327003 x327004 x327005).bind fun t344 => (some (decide ((wrap64 (x327001 + t344)) ≤ 65536)))) else (some false)))
end
def impl_ReqOk.f (k : Nat) (a0_0 : Int) (a0_1 : Int) (a0_2 : Int) (l0_3 : List Int) (l0_4 : List Bool) (a0_5 : Int) : Option (Bool) := (impl_counts.f k a0_0).bind fun bt327 => ((impl_isKind.f a0_0).bind fun t336 => (if t336 = true then ((impl_in.f a0_2 bt327.1 bt327.2.1).bind fun t337 => (if t337 = true then ((impl_in.f (l0_3.length : Int) bt327.2.2.1 bt327.2.2.2.1).bind fun t338 => (if t338 = true then ((impl_in.f (l0_4.length : Int) bt327.2.2.2.2.1 bt327.2.2.2.2.2).bind fun t339 => (impl_ReqOk.j0 k (!t339) a0_0 a0_1 a0_2 l0_3 l0_4 a0_5)) else (impl_ReqOk.j0 k true a0_0 a0_1 a0_2 l0_3 l0_4 a0_5))) else (impl_ReqOk.j0 k true a0_0 a0_1 a0_2 l0_3 l0_4 a0_5))) else (impl_ReqOk.j0 k true a0_0 a0_1 a0_2 l0_3 l0_4 a0_5)))
theorem impl_ReqOk.mono_l : ∀ k, (∀ y0 y1 y2 y3 y4 y5 y6, LeO (impl_ReqOk.j0 k y0 y1 y2 y3 y4 y5 y6) (impl_ReqOk.j0 (k + 1) y0 y1 y2 y3 y4 y5 y6)) ∧ (∀ y0 y1 y2 y3 y4 y5 y6, LeO (impl_ReqOk.j1 k y0 y1 y2 y3 y4 y5 y6) (impl_ReqOk.j1 (k + 1) y0 y1 y2 y3 y4 y5 y6))
 | 0 => ⟨fun _ _ _ _ _ _ _ r h => by simp [impl_ReqOk.j0] at h, fun _ _ _ _ _ _ _ r h => by simp [impl_ReqOk.j1] at h⟩
 | k + 1 => by
  obtain ⟨ih0, ih1⟩ := impl_ReqOk.mono_l k
  refine ⟨?_, ?_⟩
  ·intro y0 y1 y2 y3 y4 y5 y6
   unfold impl_ReqOk.j0
   repeat' first
   | (with_reducible exact ih0 _ _ _ _ _ _ _)
   | (with_reducible exact ih1 _ _ _ _ _ _ _)
   | (with_reducible exact impl_counts.mono _ _)
   | (with_reducible exact LeO.refl _)
   | (with_reducible exact LeO.none _)
   | (with_reducible refine LeO.ite ?_ ?_)
   | (with_reducible refine LeO.bind ?_ (fun _ => ?_))
   | exact ih0 _ _ _ _ _ _ _
   | exact ih1 _ _ _ _ _ _ _
   | exact impl_counts.mono _ _
   | exact LeO.none _
   | refine LeO.ite ?_ ?_
   | refine LeO.bind ?_ (fun _ => ?_)
  ·intro y0 y1 y2 y3 y4 y5 y6
   unfold impl_ReqOk.j1
   repeat' first
   | (with_reducible exact ih0 _ _ _ _ _ _ _)
   | (with_reducible exact ih1 _ _ _ _ _ _ _)
   | (with_reducible exact impl_counts.mono _ _)
   | (with_reducible exact LeO.refl _)
   | (with_reducible exact LeO.none _)
   | (with_reducible refine LeO.ite ?_ ?_)
   | (with_reducible refine LeO.bind ?_ (fun _ => ?_))
   | exact ih0 _ _ _ _ _ _ _
   | exact ih1 _ _ _ _ _ _ _
   | exact impl_counts.mono _ _
   | exact LeO.none _
   | refine LeO.ite ?_ ?_
   | refine LeO.bind ?_ (fun _ => ?_)
theorem impl_ReqOk.mono : ∀ a0 a1 a2 a3 a4 a5 k, LeO (impl_ReqOk.f k a0 a1 a2 a3 a4 a5) (impl_ReqOk.f (k + 1) a0 a1 a2 a3 a4 a5) := by
 intro a0 a1 a2 a3 a4 a5 k
 obtain ⟨ih0, ih1⟩ := impl_ReqOk.mono_l k
 unfold impl_ReqOk.f
 repeat' first
   | (with_reducible exact ih0 _ _ _ _ _ _ _)
   | (with_reducible exact ih1 _ _ _ _ _ _ _)
   | (with_reducible exact impl_counts.mono _ _)
   | (with_reducible exact LeO.refl _)
   | (with_reducible exact LeO.none _)
   | (with_reducible refine LeO.ite ?_ ?_)
   | (with_reducible refine LeO.bind ?_ (fun _ => ?_))
   | exact ih0 _ _ _ _ _ _ _
   | exact ih1 _ _ _ _ _ _ _
   | exact impl_counts.mono _ _
   | exact LeO.none _
   | refine LeO.ite ?_ ?_
   | refine LeO.bind ?_ (fun _ => ?_)
def impl_ReqOk.T8 : Bool × List (List Nat × List Nat) := (true, [([], []), ([0], [0]), ([1], [1]), ([2], [2]), ([3], [3]), ([4, 3], [3, 4]), ([3], [3]), ([6, 3, 3], [3, 6]), ([5, 7, 3], [3, 5, 7]), ([8, 3], [3, 8]), ([3, 9], [3, 9]), ([10, 7, 0, 1, 2, 3, 4, 5, 6, 7, 8, 9, 10], [10])])
def impl_ReqOk.B8 : List Nat := [0, 1, 3, 7, 15, 31, 15, 79, 255, 511, 1023, 2047]
theorem impl_ReqOk.tab8 : rtab .any (opsOf Try.f37 8) = impl_ReqOk.T8 := by kernel_rfl
theorem impl_ReqOk.bits8 : waitsOk impl_ReqOk.T8.2 impl_ReqOk.B8 = true := by kernel_rfl
set_option maxHeartbeats 8000000 in
set_option maxRecDepth 100000 in
theorem impl_ReqOk.calls (k : Nat) (a0_0 : Int) (a0_1 : Int) (a0_2 : Int) (A0_3 : Option Addr) (c0_3 : Nat) (l0_3 : List Int) (A0_4 : Option Addr) (c0_4 : Nat) (l0_4 : List Bool) (a0_5 : Int) (r : Bool) (w : World) (hr0_3 : Kd.C (Kd.int .i64) w A0_3 l0_3.length l0_3) (hc0_3 : l0_3.length ≤ c0_3) (hr0_4 : Kd.C Kd.bool w A0_4 l0_4.length l0_4) (hc0_4 : l0_4.length ≤ c0_4) (h : impl_ReqOk.f k a0_0 a0_1 a0_2 l0_3 l0_4 a0_5 = some r) :
  Calls Try.prog 37 #[.agg #[.int .i64 a0_0, .int .i64 a0_1, .int .i64 a0_2, .slice A0_3 l0_3.length c0_3, .slice A0_4 l0_4.length c0_4, .int .i64 a0_5]] w fun e w' => e = .returned (.bool r) ∧ Below w.heap.size w w' := by
 have hu41 := Try.underlying41
 have hu82 := Try.underlying82
 have HR0_3 := aM hr0_3
 have HC0_3 := aM hc0_3
 clear hr0_3 hc0_3
 have HR0_4 := aM hr0_4
 have HC0_4 := aM hc0_4
 clear hr0_4 hc0_4
 have HB := aM (Below.refl w.heap.size w)
 have H : ((impl_counts.f k a0_0).bind fun bt327 => ((impl_isKind.f a0_0).bind fun t336 => (if t336 = true then ((impl_in.f a0_2 bt327.1 bt327.2.1).bind fun t337 => (if t337 = true then ((impl_in.f (l0_3.length : Int) bt327.2.2.1 bt327.2.2.2.1).bind fun t338 => (if t338 = true then ((impl_in.f (l0_4.length : Int) bt327.2.2.2.2.1 bt327.2.2.2.2.2).bind fun t339 => (impl_ReqOk.j0 k (!t339) a0_0 a0_1 a0_2 l0_3 l0_4 a0_5)) else (impl_ReqOk.j0 k true a0_0 a0_1 a0_2 l0_3 l0_4 a0_5))) else (impl_ReqOk.j0 k true a0_0 a0_1 a0_2 l0_3 l0_4 a0_5))) else (impl_ReqOk.j0 k true a0_0 a0_1 a0_2 l0_3 l0_4 a0_5)))) = some r := h
 clear h
 replace H := Option.bind_eq_some_iff.mp H
 obtain ⟨⟨t327, t328, t329, t330, t331, t332⟩, A20, H⟩ := H
 replace H : ((impl_isKind.f a0_0).bind fun t336 => (if t336 = true then ((impl_in.f a0_2 t327 t328).bind fun t337 => (if t337 = true then ((impl_in.f (l0_3.length : Int) t329 t330).bind fun t338 => (if t338 = true then ((impl_in.f (l0_4.length : Int) t331 t332).bind fun t339 => (impl_ReqOk.j0 k (!t339) a0_0 a0_1 a0_2 l0_3 l0_4 a0_5)) else (impl_ReqOk.j0 k true a0_0 a0_1 a0_2 l0_3 l0_4 a0_5))) else (impl_ReqOk.j0 k true a0_0 a0_1 a0_2 l0_3 l0_4 a0_5))) else (impl_ReqOk.j0 k true a0_0 a0_1 a0_2 l0_3 l0_4 a0_5))) = some r := H
 have A2 := aM A20
 clear A20
 have HC3 := aM H
 clear H
 go_enter Try.func37, Try.ntmps37
 go_upto_region 2 with (first | ((with_reducible refine gate_dst (N := 1) rfl ?_); (try (refine gate_guard (by rfl) ?_; dsimp only)); refine box_event ?hg (N := 1) ?hd (cs := #[.int .i64 a0_0, .int .i64 a0_1, .int .i64 a0_2, .slice A0_3 l0_3.length c0_3, .slice A0_4 l0_4.length c0_4, .int .i64 a0_5]) (t := 41) ?hr ?_; (case hd => rfl); (case hg => rfl); (case hr => first | (go_simp; done) | (go_simp; rfl)); intro gb326 hg w4 hbox hb; have _ := aM (below_step (bS HB.out) hb); have _ := aM (hbox); have _ := aM (leG hg (bS HB.out)); have _ := aM (leG hg (bS HB.out)); clear HB; rename_i HB BK326 GW326 GE326; clear hb hbox hg; obtain ⟨hcz5_0, hfz5_0, hcz5_1, hfz5_1, hcz5_2, hfz5_2, hcz5_3, hfz5_3, hcz5_4, hfz5_4, hcz5_5, hfz5_5⟩ := bk6 BK326.out) | ((with_reducible refine gate_callee (f := 61) rfl ?_); refine gL (some 9) rfl rfl Try.func61 (by kernel_rfl) rfl #[.int .i64 a0_0] rfl ?_; (with_reducible refine (impl_counts.calls k a0_0 t327 t328 t329 t330 t331 t332 _ A2.out).mono ?_); rintro e w6 ⟨rfl, hb⟩; refine ⟨_, rfl, ?_⟩; have _ := aM (kB BK326.out hb); have _ := aM (below_step (bS HB.out) hb); clear BK326 HB; rename_i BK326 HB; (try clear hb)) | ((with_reducible refine gate_dst (N := 3) rfl ?_); (try (refine gate_guard (by rfl) ?_; dsimp only)); refine box_event ?hg (N := 3) ?hd (cs := #[.int .i64 0, .int .i64 0]) (t := 82) ?hr ?_; (case hd => rfl); (case hg => rfl); (case hr => first | (go_simp; done) | (go_simp; rfl)); intro gb333 hg w7 hbox hb; have _ := aM (kB BK326.out hb); have _ := aM (below_step (bS HB.out) hb); have _ := aM (hbox); have _ := aM (leG hg (bS HB.out)); have _ := aM (leG hg (bS HB.out)); have _ := aM (neL hg (kA BK326.out)); have _ := aM (neG hg (kA BK326.out)); clear BK326 HB; rename_i BK326 HB BK333 GW333 GE333 NB326_333 NB333_326; clear hb hbox hg) | ((with_reducible refine gate_dst (N := 4) rfl ?_); (try (refine gate_guard (by rfl) ?_; dsimp only)); refine box_event ?hg (N := 4) ?hd (cs := #[.int .i64 0, .int .i64 0]) (t := 82) ?hr ?_; (case hd => rfl); (case hg => rfl); (case hr => first | (go_simp; done) | (go_simp; rfl)); intro gb334 hg w8 hbox hb; have _ := aM (kB BK326.out hb); have _ := aM (kB BK333.out hb); have _ := aM (below_step (bS HB.out) hb); have _ := aM (hbox); have _ := aM (leG hg (bS HB.out)); have _ := aM (leG hg (bS HB.out)); have _ := aM (neL hg (kA BK326.out)); have _ := aM (neG hg (kA BK326.out)); have _ := aM (neL hg (kA BK333.out)); have _ := aM (neG hg (kA BK333.out)); clear BK326 BK333 HB; rename_i BK326 BK333 HB BK334 GW334 GE334 NB326_334 NB334_326 NB333_334 NB334_333; clear hb hbox hg) | ((with_reducible refine gate_dst (N := 5) rfl ?_); (try (refine gate_guard (by rfl) ?_; dsimp only)); refine box_event ?hg (N := 5) ?hd (cs := #[.int .i64 0, .int .i64 0]) (t := 82) ?hr ?_; (case hd => rfl); (case hg => rfl); (case hr => first | (go_simp; done) | (go_simp; rfl)); intro gb335 hg w9 hbox hb; have _ := aM (kB BK326.out hb); have _ := aM (kB BK333.out hb); have _ := aM (kB BK334.out hb); have _ := aM (below_step (bS HB.out) hb); have _ := aM (hbox); have _ := aM (leG hg (bS HB.out)); have _ := aM (leG hg (bS HB.out)); have _ := aM (neL hg (kA BK326.out)); have _ := aM (neG hg (kA BK326.out)); have _ := aM (neL hg (kA BK333.out)); have _ := aM (neG hg (kA BK333.out)); have _ := aM (neL hg (kA BK334.out)); have _ := aM (neG hg (kA BK334.out)); clear BK326 BK333 BK334 HB; rename_i BK326 BK333 BK334 HB BK335 GW335 GE335 NB326_335 NB335_326 NB333_335 NB335_333 NB334_335 NB335_334; clear hb hbox hg; have hnb10 := NB333_326.out; have hnc10 := NB326_333.out; have hnb11 := NB333_334.out; have hnc11 := NB334_333.out; have hnb12 := NB333_335.out; have hnc12 := NB335_333.out; obtain ⟨hcz13_0, hfz13_0, hcz13_1, hfz13_1⟩ := bk2 BK333.out; have hnb14 := NB334_326.out; have hnc14 := NB326_334.out; have hnb15 := NB334_335.out; have hnc15 := NB335_334.out; obtain ⟨hcz16_0, hfz16_0, hcz16_1, hfz16_1⟩ := bk2 BK334.out; have hnb17 := NB335_326.out; have hnc17 := NB326_335.out; obtain ⟨hcz18_0, hfz18_0, hcz18_1, hfz18_1⟩ := bk2 BK335.out))
 (try simp only [Act.put, List.setIfInBounds_toArray, List.set_cons_zero, List.set_cons_succ])
 go_cut [48] (fun v48 wc => ∃ (kq : Nat) (x48_2 : Bool), v48 = .bool x48_2 ∧ Aside0 (impl_ReqOk.j0 kq x48_2 a0_0 a0_1 a0_2 l0_3 l0_4 a0_5 = some r) ∧ Aside0 (kq ≤ k) ∧ Aside0 (wc.heap[gb326]? = some (.cells #[.int .i64 a0_0, .int .i64 a0_1, .int .i64 a0_2, (.slice A0_3 l0_3.length c0_3), (.slice A0_4 l0_4.length c0_4), .int .i64 a0_5] 41 (0, 0))) ∧ Aside0 (wc.heap[gb333]? = some (.cells #[.int .i64 t327, .int .i64 t328] 82 (0, 0))) ∧ Aside0 (wc.heap[gb334]? = some (.cells #[.int .i64 t329, .int .i64 t330] 82 (0, 0))) ∧ Aside0 (wc.heap[gb335]? = some (.cells #[.int .i64 t331, .int .i64 t332] 82 (0, 0))) ∧ Aside0 (Below w.heap.size w wc))
 case first =>
  have H := HC3.out
  clear HC3
  replace H := Option.bind_eq_some_iff.mp H
  obtain ⟨t336, A190, H⟩ := H
  replace H : (if t336 = true then ((impl_in.f a0_2 t327 t328).bind fun t337 => (if t337 = true then ((impl_in.f (l0_3.length : Int) t329 t330).bind fun t338 => (if t338 = true then ((impl_in.f (l0_4.length : Int) t331 t332).bind fun t339 => (impl_ReqOk.j0 k (!t339) a0_0 a0_1 a0_2 l0_3 l0_4 a0_5)) else (impl_ReqOk.j0 k true a0_0 a0_1 a0_2 l0_3 l0_4 a0_5))) else (impl_ReqOk.j0 k true a0_0 a0_1 a0_2 l0_3 l0_4 a0_5))) else (impl_ReqOk.j0 k true a0_0 a0_1 a0_2 l0_3 l0_4 a0_5)) = some r := H
  have A19 := aM A190
  clear A190
  by_cases c20 : t336 = true
  ·subst c20
   have H1 : ((impl_in.f a0_2 t327 t328).bind fun t337 => (if t337 = true then ((impl_in.f (l0_3.length : Int) t329 t330).bind fun t338 => (if t338 = true then ((impl_in.f (l0_4.length : Int) t331 t332).bind fun t339 => (impl_ReqOk.j0 k (!t339) a0_0 a0_1 a0_2 l0_3 l0_4 a0_5)) else (impl_ReqOk.j0 k true a0_0 a0_1 a0_2 l0_3 l0_4 a0_5))) else (impl_ReqOk.j0 k true a0_0 a0_1 a0_2 l0_3 l0_4 a0_5))) = some r := by rw [if_pos rfl] at H; exact H
   clear H
   have H := H1
   clear H1
   replace H := Option.bind_eq_some_iff.mp H
   obtain ⟨t337, A210, H⟩ := H
   replace H : (if t337 = true then ((impl_in.f (l0_3.length : Int) t329 t330).bind fun t338 => (if t338 = true then ((impl_in.f (l0_4.length : Int) t331 t332).bind fun t339 => (impl_ReqOk.j0 k (!t339) a0_0 a0_1 a0_2 l0_3 l0_4 a0_5)) else (impl_ReqOk.j0 k true a0_0 a0_1 a0_2 l0_3 l0_4 a0_5))) else (impl_ReqOk.j0 k true a0_0 a0_1 a0_2 l0_3 l0_4 a0_5)) = some r := H
   have A21 := aM A210
   clear A210
   by_cases c22 : t337 = true
   ·subst c22
    have H1 : ((impl_in.f (l0_3.length : Int) t329 t330).bind fun t338 => (if t338 = true then ((impl_in.f (l0_4.length : Int) t331 t332).bind fun t339 => (impl_ReqOk.j0 k (!t339) a0_0 a0_1 a0_2 l0_3 l0_4 a0_5)) else (impl_ReqOk.j0 k true a0_0 a0_1 a0_2 l0_3 l0_4 a0_5))) = some r := by rw [if_pos rfl] at H; exact H
    clear H
    have H := H1
    clear H1
    replace H := Option.bind_eq_some_iff.mp H
    obtain ⟨t338, A230, H⟩ := H
    replace H : (if t338 = true then ((impl_in.f (l0_4.length : Int) t331 t332).bind fun t339 => (impl_ReqOk.j0 k (!t339) a0_0 a0_1 a0_2 l0_3 l0_4 a0_5)) else (impl_ReqOk.j0 k true a0_0 a0_1 a0_2 l0_3 l0_4 a0_5)) = some r := H
    have A23 := aM A230
    clear A230
    by_cases c24 : t338 = true
    ·subst c24
     have H1 : ((impl_in.f (l0_4.length : Int) t331 t332).bind fun t339 => (impl_ReqOk.j0 k (!t339) a0_0 a0_1 a0_2 l0_3 l0_4 a0_5)) = some r := by rw [if_pos rfl] at H; exact H
     clear H
     have H := H1
     clear H1
     replace H := Option.bind_eq_some_iff.mp H
     obtain ⟨t339, A250, H⟩ := H
     replace H : (impl_ReqOk.j0 k (!t339) a0_0 a0_1 a0_2 l0_3 l0_4 a0_5) = some r := H
     have A25 := aM A250
     clear A250
     have H' := aM H
     clear H
     have hnb26 := NB326_333.out
     have hnc26 := NB333_326.out
     have hnb27 := NB326_334.out
     have hnc27 := NB334_326.out
     have hnb28 := NB326_335.out
     have hnc28 := NB335_326.out
     obtain ⟨hcz29_0, hfz29_0, hcz29_1, hfz29_1, hcz29_2, hfz29_2, hcz29_3, hfz29_3, hcz29_4, hfz29_4, hcz29_5, hfz29_5⟩ := bk6 BK326.out
     go_wp2_with (first | ((with_reducible refine gate_callee (f := 62) rfl ?_); refine gL (some 15) rfl rfl Try.func62 (by kernel_rfl) rfl #[.int .i64 a0_0] rfl ?_; (with_reducible refine (impl_isKind.calls a0_0 true _ A19.out).mono ?_); rintro e w' ⟨rfl, ⟨nd, rfl⟩⟩; refine ⟨_, rfl, ?_⟩; have hnb30 := NB333_334.out; have hnc30 := NB334_333.out; have hnb31 := NB333_335.out; have hnc31 := NB335_333.out; obtain ⟨hcz32_0, hfz32_0, hcz32_1, hfz32_1⟩ := bk2 BK333.out) | (go_at_call 36; (with_reducible refine (impl_in.calls a0_2 t327 t328 true _ A21.out).mono ?_); rintro e w' ⟨rfl, ⟨nd, rfl⟩⟩; have hnb33 := NB334_335.out; have hnc33 := NB335_334.out; obtain ⟨hcz34_0, hfz34_0, hcz34_1, hfz34_1⟩ := bk2 BK334.out) | (go_at_call 36; (with_reducible refine (impl_in.calls (l0_3.length : Int) t329 t330 true _ A23.out).mono ?_); rintro e w' ⟨rfl, ⟨nd, rfl⟩⟩; obtain ⟨hcz35_0, hfz35_0, hcz35_1, hfz35_1⟩ := bk2 BK335.out) | (go_at_call 36; (with_reducible refine (impl_in.calls (l0_4.length : Int) t331 t332 t339 _ A25.out).mono ?_); rintro e w' ⟨rfl, ⟨nd, rfl⟩⟩))
     go_meet
     case rel => exact ⟨_, (!t339), (by first | rfl | (simp; done) | (simp [*]; done)), H', ⟨by first | omega | exact Nat.le_refl _⟩, ⟨kX BK326.out⟩, ⟨kX BK333.out⟩, ⟨kX BK334.out⟩, ⟨kX BK335.out⟩, ⟨bS HB.out⟩⟩
    ·replace c24 := Bool.eq_false_iff.mpr c24
     subst c24
     have H1 : (impl_ReqOk.j0 k true a0_0 a0_1 a0_2 l0_3 l0_4 a0_5) = some r := by rw [if_neg (show ¬ (false = true) by decide)] at H; exact H
     clear H
     have H := H1
     clear H1
     have H' := aM H
     clear H
     have hnb36 := NB326_333.out
     have hnc36 := NB333_326.out
     have hnb37 := NB326_334.out
     have hnc37 := NB334_326.out
     have hnb38 := NB326_335.out
     have hnc38 := NB335_326.out
     obtain ⟨hcz39_0, hfz39_0, hcz39_1, hfz39_1, hcz39_2, hfz39_2, hcz39_3, hfz39_3, hcz39_4, hfz39_4, hcz39_5, hfz39_5⟩ := bk6 BK326.out
     go_wp2_with (first | ((with_reducible refine gate_callee (f := 62) rfl ?_); refine gL (some 15) rfl rfl Try.func62 (by kernel_rfl) rfl #[.int .i64 a0_0] rfl ?_; (with_reducible refine (impl_isKind.calls a0_0 true _ A19.out).mono ?_); rintro e w' ⟨rfl, ⟨nd, rfl⟩⟩; refine ⟨_, rfl, ?_⟩; have hnb40 := NB333_334.out; have hnc40 := NB334_333.out; have hnb41 := NB333_335.out; have hnc41 := NB335_333.out; obtain ⟨hcz42_0, hfz42_0, hcz42_1, hfz42_1⟩ := bk2 BK333.out) | (go_at_call 36; (with_reducible refine (impl_in.calls a0_2 t327 t328 true _ A21.out).mono ?_); rintro e w' ⟨rfl, ⟨nd, rfl⟩⟩; have hnb43 := NB334_335.out; have hnc43 := NB335_334.out; obtain ⟨hcz44_0, hfz44_0, hcz44_1, hfz44_1⟩ := bk2 BK334.out) | (go_at_call 36; (with_reducible refine (impl_in.calls (l0_3.length : Int) t329 t330 false _ A23.out).mono ?_); rintro e w' ⟨rfl, ⟨nd, rfl⟩⟩))
     go_meet
     case rel => exact ⟨_, (true), (by first | rfl | (simp; done) | (simp [*]; done)), H', ⟨by first | omega | exact Nat.le_refl _⟩, ⟨kX BK326.out⟩, ⟨kX BK333.out⟩, ⟨kX BK334.out⟩, ⟨kX BK335.out⟩, ⟨bS HB.out⟩⟩
   ·replace c22 := Bool.eq_false_iff.mpr c22
    subst c22
    have H1 : (impl_ReqOk.j0 k true a0_0 a0_1 a0_2 l0_3 l0_4 a0_5) = some r := by rw [if_neg (show ¬ (false = true) by decide)] at H; exact H
    clear H
    have H := H1
    clear H1
    have H' := aM H
    clear H
    have hnb45 := NB326_333.out
    have hnc45 := NB333_326.out
    have hnb46 := NB326_334.out
    have hnc46 := NB334_326.out
    have hnb47 := NB326_335.out
    have hnc47 := NB335_326.out
    obtain ⟨hcz48_0, hfz48_0, hcz48_1, hfz48_1, hcz48_2, hfz48_2, hcz48_3, hfz48_3, hcz48_4, hfz48_4, hcz48_5, hfz48_5⟩ := bk6 BK326.out
    go_wp2_with (first | ((with_reducible refine gate_callee (f := 62) rfl ?_); refine gL (some 15) rfl rfl Try.func62 (by kernel_rfl) rfl #[.int .i64 a0_0] rfl ?_; (with_reducible refine (impl_isKind.calls a0_0 true _ A19.out).mono ?_); rintro e w' ⟨rfl, ⟨nd, rfl⟩⟩; refine ⟨_, rfl, ?_⟩; have hnb49 := NB333_334.out; have hnc49 := NB334_333.out; have hnb50 := NB333_335.out; have hnc50 := NB335_333.out; obtain ⟨hcz51_0, hfz51_0, hcz51_1, hfz51_1⟩ := bk2 BK333.out) | (go_at_call 36; (with_reducible refine (impl_in.calls a0_2 t327 t328 false _ A21.out).mono ?_); rintro e w' ⟨rfl, ⟨nd, rfl⟩⟩))
    go_meet
    case rel => exact ⟨_, (true), (by first | rfl | (simp; done) | (simp [*]; done)), H', ⟨by first | omega | exact Nat.le_refl _⟩, ⟨kX BK326.out⟩, ⟨kX BK333.out⟩, ⟨kX BK334.out⟩, ⟨kX BK335.out⟩, ⟨bS HB.out⟩⟩
  ·replace c20 := Bool.eq_false_iff.mpr c20
   subst c20
   have H1 : (impl_ReqOk.j0 k true a0_0 a0_1 a0_2 l0_3 l0_4 a0_5) = some r := by rw [if_neg (show ¬ (false = true) by decide)] at H; exact H
   clear H
   have H := H1
   clear H1
   have H' := aM H
   clear H
   have hnb52 := NB326_333.out
   have hnc52 := NB333_326.out
   have hnb53 := NB326_334.out
   have hnc53 := NB334_326.out
   have hnb54 := NB326_335.out
   have hnc54 := NB335_326.out
   obtain ⟨hcz55_0, hfz55_0, hcz55_1, hfz55_1, hcz55_2, hfz55_2, hcz55_3, hfz55_3, hcz55_4, hfz55_4, hcz55_5, hfz55_5⟩ := bk6 BK326.out
   go_wp2_with (first | ((with_reducible refine gate_callee (f := 62) rfl ?_); refine gL (some 15) rfl rfl Try.func62 (by kernel_rfl) rfl #[.int .i64 a0_0] rfl ?_; (with_reducible refine (impl_isKind.calls a0_0 false _ A19.out).mono ?_); rintro e w' ⟨rfl, ⟨nd, rfl⟩⟩; refine ⟨_, rfl, ?_⟩))
   go_meet
   case rel => exact ⟨_, (true), (by first | rfl | (simp; done) | (simp [*]; done)), H', ⟨by first | omega | exact Nat.le_refl _⟩, ⟨kX BK326.out⟩, ⟨kX BK333.out⟩, ⟨kX BK334.out⟩, ⟨kX BK335.out⟩, ⟨bS HB.out⟩⟩
 case rest =>
  clear HC3
  try clear hcz13_0
  try clear hcz13_1
  try clear hcz16_0
  try clear hcz16_1
  try clear hcz18_0
  try clear hcz18_1
  try clear hcz5_0
  try clear hcz5_1
  try clear hcz5_2
  try clear hcz5_3
  try clear hcz5_4
  try clear hcz5_5
  try clear hfz13_0
  try clear hfz13_1
  try clear hfz16_0
  try clear hfz16_1
  try clear hfz18_0
  try clear hfz18_1
  try clear hfz5_0
  try clear hfz5_1
  try clear hfz5_2
  try clear hfz5_3
  try clear hfz5_4
  try clear hfz5_5
  obtain ⟨kq, x48_2, rfl, HA, HJ2, BK326, BK333, BK334, BK335, HB⟩ := hcut
  cases kq with
  | zero => exact absurd HA.out (by simp [impl_ReqOk.j0])
  | succ kj2 =>
   have H := HA.out
   clear HA
   simp only [impl_ReqOk.j0] at H
   by_cases c56 : x48_2 = true
   ·subst c56
    have H1 : (some false) = some r := by rw [if_pos rfl] at H; exact H
    clear H
    have H := H1
    clear H1
    obtain rfl := Option.some.inj H
    go_wp2
    go_ret
    exact ⟨by first | rfl | (simp [errW_none, errW_some] <;> rfl) | (simp [*, errW_none, errW_some] <;> rfl), bS HB.out⟩
   ·replace c56 := Bool.eq_false_iff.mpr c56
    subst c56
    have H1 : ((impl_isWord.f a0_1).bind fun t340 => (if t340 = true then ((impl_isWord.f a0_5).bind fun t341 => (if t341 = true then ((impl_allWords.f l0_3).bind fun t342 => (if t342 = true then (impl_ReqOk.j1 kj2 (decide ((wrap64 (a0_1 + a0_2)) > 65536)) a0_0 a0_1 a0_2 l0_3 l0_4 a0_5) else (impl_ReqOk.j1 kj2 true a0_0 a0_1 a0_2 l0_3 l0_4 a0_5))) else (impl_ReqOk.j1 kj2 true a0_0 a0_1 a0_2 l0_3 l0_4 a0_5))) else (impl_ReqOk.j1 kj2 true a0_0 a0_1 a0_2 l0_3 l0_4 a0_5))) = some r := by rw [if_neg (show ¬ (false = true) by decide)] at H; exact H
    clear H
    have H := H1
    clear H1
    have HC57 := aM H
    clear H
    go_upto_region 4 with (fail)
    go_cut [72] (fun v72 wc => ∃ (kq : Nat) (x72_56 : Bool), v72 = .bool x72_56 ∧ Aside0 (impl_ReqOk.j1 kq x72_56 a0_0 a0_1 a0_2 l0_3 l0_4 a0_5 = some r) ∧ Aside0 (kq ≤ kj2) ∧ Aside0 (wc.heap[gb326]? = some (.cells #[.int .i64 a0_0, .int .i64 a0_1, .int .i64 a0_2, (.slice A0_3 l0_3.length c0_3), (.slice A0_4 l0_4.length c0_4), .int .i64 a0_5] 41 (0, 0))) ∧ Aside0 (wc.heap[gb333]? = some (.cells #[.int .i64 t327, .int .i64 t328] 82 (0, 0))) ∧ Aside0 (wc.heap[gb334]? = some (.cells #[.int .i64 t329, .int .i64 t330] 82 (0, 0))) ∧ Aside0 (wc.heap[gb335]? = some (.cells #[.int .i64 t331, .int .i64 t332] 82 (0, 0))) ∧ Aside0 (Below w.heap.size w wc))
    case first =>
     have H := HC57.out
     clear HC57
     replace H := Option.bind_eq_some_iff.mp H
     obtain ⟨t340, A580, H⟩ := H
     replace H : (if t340 = true then ((impl_isWord.f a0_5).bind fun t341 => (if t341 = true then ((impl_allWords.f l0_3).bind fun t342 => (if t342 = true then (impl_ReqOk.j1 kj2 (decide ((wrap64 (a0_1 + a0_2)) > 65536)) a0_0 a0_1 a0_2 l0_3 l0_4 a0_5) else (impl_ReqOk.j1 kj2 true a0_0 a0_1 a0_2 l0_3 l0_4 a0_5))) else (impl_ReqOk.j1 kj2 true a0_0 a0_1 a0_2 l0_3 l0_4 a0_5))) else (impl_ReqOk.j1 kj2 true a0_0 a0_1 a0_2 l0_3 l0_4 a0_5)) = some r := H
     have A58 := aM A580
     clear A580
     by_cases c59 : t340 = true
     ·subst c59
      have H1 : ((impl_isWord.f a0_5).bind fun t341 => (if t341 = true then ((impl_allWords.f l0_3).bind fun t342 => (if t342 = true then (impl_ReqOk.j1 kj2 (decide ((wrap64 (a0_1 + a0_2)) > 65536)) a0_0 a0_1 a0_2 l0_3 l0_4 a0_5) else (impl_ReqOk.j1 kj2 true a0_0 a0_1 a0_2 l0_3 l0_4 a0_5))) else (impl_ReqOk.j1 kj2 true a0_0 a0_1 a0_2 l0_3 l0_4 a0_5))) = some r := by rw [if_pos rfl] at H; exact H
      clear H
      have H := H1
      clear H1
      replace H := Option.bind_eq_some_iff.mp H
      obtain ⟨t341, A600, H⟩ := H
      replace H : (if t341 = true then ((impl_allWords.f l0_3).bind fun t342 => (if t342 = true then (impl_ReqOk.j1 kj2 (decide ((wrap64 (a0_1 + a0_2)) > 65536)) a0_0 a0_1 a0_2 l0_3 l0_4 a0_5) else (impl_ReqOk.j1 kj2 true a0_0 a0_1 a0_2 l0_3 l0_4 a0_5))) else (impl_ReqOk.j1 kj2 true a0_0 a0_1 a0_2 l0_3 l0_4 a0_5)) = some r := H
      have A60 := aM A600
      clear A600
      by_cases c61 : t341 = true
      ·subst c61
       have H1 : ((impl_allWords.f l0_3).bind fun t342 => (if t342 = true then (impl_ReqOk.j1 kj2 (decide ((wrap64 (a0_1 + a0_2)) > 65536)) a0_0 a0_1 a0_2 l0_3 l0_4 a0_5) else (impl_ReqOk.j1 kj2 true a0_0 a0_1 a0_2 l0_3 l0_4 a0_5))) = some r := by rw [if_pos rfl] at H; exact H
       clear H
       have H := H1
       clear H1
       replace H := Option.bind_eq_some_iff.mp H
       obtain ⟨t342, A620, H⟩ := H
       replace H : (if t342 = true then (impl_ReqOk.j1 kj2 (decide ((wrap64 (a0_1 + a0_2)) > 65536)) a0_0 a0_1 a0_2 l0_3 l0_4 a0_5) else (impl_ReqOk.j1 kj2 true a0_0 a0_1 a0_2 l0_3 l0_4 a0_5)) = some r := H
       have A62 := aM A620
       clear A620
       by_cases c63 : t342 = true
       ·subst c63
        have H1 : (impl_ReqOk.j1 kj2 (decide ((wrap64 (a0_1 + a0_2)) > 65536)) a0_0 a0_1 a0_2 l0_3 l0_4 a0_5) = some r := by rw [if_pos rfl] at H; exact H
        clear H
        have H := H1
        clear H1
        have H' := aM H
        clear H
        have hnb64 := NB326_333.out
        have hnc64 := NB333_326.out
        have hnb65 := NB326_334.out
        have hnc65 := NB334_326.out
        have hnb66 := NB326_335.out
        have hnc66 := NB335_326.out
        obtain ⟨hcz67_0, hfz67_0, hcz67_1, hfz67_1, hcz67_2, hfz67_2, hcz67_3, hfz67_3, hcz67_4, hfz67_4, hcz67_5, hfz67_5⟩ := bk6 BK326.out
        go_wp2_with (first | ((with_reducible refine gate_callee (f := 60) rfl ?_); refine gL (some 51) rfl rfl Try.func60 (by kernel_rfl) rfl #[.int .i64 a0_1] rfl ?_; (with_reducible refine (impl_isWord.calls a0_1 true _ A58.out).mono ?_); rintro e w' ⟨rfl, ⟨nd, rfl⟩⟩; refine ⟨_, rfl, ?_⟩) | (go_at_call 60; (with_reducible refine (impl_isWord.calls a0_5 true _ A60.out).mono ?_); rintro e w' ⟨rfl, ⟨nd, rfl⟩⟩) | (go_at_call 31; (with_reducible refine (impl_allWords.calls _ _ l0_3 true _ ?side1 ?side2 A62.out).mono ?_); (case side1 => repeat (first | exact (Kd.C_below HR0_3.out (bS HB.out)) | (with_reducible refine Kd.C_alloc ?_ _) | (with_reducible refine Kd.C_drewN ?_ _) | (with_reducible refine Kd.C_drew ?_))); (case side2 => exact HC0_3.out); rintro e w' ⟨rfl, ⟨nd, rfl⟩⟩))
        go_meet
        case rel => exact ⟨_, (decide ((wrap64 (a0_1 + a0_2)) > 65536)), (by first | rfl | (simp; done) | (simp [*]; done)), H', ⟨by have := HJ2.out; first | omega | exact Nat.le_refl _⟩, ⟨kX BK326.out⟩, ⟨kX BK333.out⟩, ⟨kX BK334.out⟩, ⟨kX BK335.out⟩, ⟨bS HB.out⟩⟩
       ·replace c63 := Bool.eq_false_iff.mpr c63
        subst c63
        have H1 : (impl_ReqOk.j1 kj2 true a0_0 a0_1 a0_2 l0_3 l0_4 a0_5) = some r := by rw [if_neg (show ¬ (false = true) by decide)] at H; exact H
        clear H
        have H := H1
        clear H1
        have H' := aM H
        clear H
        have hnb68 := NB326_333.out
        have hnc68 := NB333_326.out
        have hnb69 := NB326_334.out
        have hnc69 := NB334_326.out
        have hnb70 := NB326_335.out
        have hnc70 := NB335_326.out
        obtain ⟨hcz71_0, hfz71_0, hcz71_1, hfz71_1, hcz71_2, hfz71_2, hcz71_3, hfz71_3, hcz71_4, hfz71_4, hcz71_5, hfz71_5⟩ := bk6 BK326.out
        go_wp2_with (first | ((with_reducible refine gate_callee (f := 60) rfl ?_); refine gL (some 51) rfl rfl Try.func60 (by kernel_rfl) rfl #[.int .i64 a0_1] rfl ?_; (with_reducible refine (impl_isWord.calls a0_1 true _ A58.out).mono ?_); rintro e w' ⟨rfl, ⟨nd, rfl⟩⟩; refine ⟨_, rfl, ?_⟩) | (go_at_call 60; (with_reducible refine (impl_isWord.calls a0_5 true _ A60.out).mono ?_); rintro e w' ⟨rfl, ⟨nd, rfl⟩⟩) | (go_at_call 31; (with_reducible refine (impl_allWords.calls _ _ l0_3 false _ ?side1 ?side2 A62.out).mono ?_); (case side1 => repeat (first | exact (Kd.C_below HR0_3.out (bS HB.out)) | (with_reducible refine Kd.C_alloc ?_ _) | (with_reducible refine Kd.C_drewN ?_ _) | (with_reducible refine Kd.C_drew ?_))); (case side2 => exact HC0_3.out); rintro e w' ⟨rfl, ⟨nd, rfl⟩⟩))
        go_meet
        case rel => exact ⟨_, (true), (by first | rfl | (simp; done) | (simp [*]; done)), H', ⟨by have := HJ2.out; first | omega | exact Nat.le_refl _⟩, ⟨kX BK326.out⟩, ⟨kX BK333.out⟩, ⟨kX BK334.out⟩, ⟨kX BK335.out⟩, ⟨bS HB.out⟩⟩
      ·replace c61 := Bool.eq_false_iff.mpr c61
       subst c61
       have H1 : (impl_ReqOk.j1 kj2 true a0_0 a0_1 a0_2 l0_3 l0_4 a0_5) = some r := by rw [if_neg (show ¬ (false = true) by decide)] at H; exact H
       clear H
       have H := H1
       clear H1
       have H' := aM H
       clear H
       have hnb72 := NB326_333.out
       have hnc72 := NB333_326.out
       have hnb73 := NB326_334.out
       have hnc73 := NB334_326.out
       have hnb74 := NB326_335.out
       have hnc74 := NB335_326.out
       obtain ⟨hcz75_0, hfz75_0, hcz75_1, hfz75_1, hcz75_2, hfz75_2, hcz75_3, hfz75_3, hcz75_4, hfz75_4, hcz75_5, hfz75_5⟩ := bk6 BK326.out
       go_wp2_with (first | ((with_reducible refine gate_callee (f := 60) rfl ?_); refine gL (some 51) rfl rfl Try.func60 (by kernel_rfl) rfl #[.int .i64 a0_1] rfl ?_; (with_reducible refine (impl_isWord.calls a0_1 true _ A58.out).mono ?_); rintro e w' ⟨rfl, ⟨nd, rfl⟩⟩; refine ⟨_, rfl, ?_⟩) | (go_at_call 60; (with_reducible refine (impl_isWord.calls a0_5 false _ A60.out).mono ?_); rintro e w' ⟨rfl, ⟨nd, rfl⟩⟩))
       go_meet
       case rel => exact ⟨_, (true), (by first | rfl | (simp; done) | (simp [*]; done)), H', ⟨by have := HJ2.out; first | omega | exact Nat.le_refl _⟩, ⟨kX BK326.out⟩, ⟨kX BK333.out⟩, ⟨kX BK334.out⟩, ⟨kX BK335.out⟩, ⟨bS HB.out⟩⟩
     ·replace c59 := Bool.eq_false_iff.mpr c59
      subst c59
      have H1 : (impl_ReqOk.j1 kj2 true a0_0 a0_1 a0_2 l0_3 l0_4 a0_5) = some r := by rw [if_neg (show ¬ (false = true) by decide)] at H; exact H
      clear H
      have H := H1
      clear H1
      have H' := aM H
      clear H
      have hnb76 := NB326_333.out
      have hnc76 := NB333_326.out
      have hnb77 := NB326_334.out
      have hnc77 := NB334_326.out
      have hnb78 := NB326_335.out
      have hnc78 := NB335_326.out
      obtain ⟨hcz79_0, hfz79_0, hcz79_1, hfz79_1, hcz79_2, hfz79_2, hcz79_3, hfz79_3, hcz79_4, hfz79_4, hcz79_5, hfz79_5⟩ := bk6 BK326.out
      go_wp2_with (first | ((with_reducible refine gate_callee (f := 60) rfl ?_); refine gL (some 51) rfl rfl Try.func60 (by kernel_rfl) rfl #[.int .i64 a0_1] rfl ?_; (with_reducible refine (impl_isWord.calls a0_1 false _ A58.out).mono ?_); rintro e w' ⟨rfl, ⟨nd, rfl⟩⟩; refine ⟨_, rfl, ?_⟩))
      go_meet
      case rel => exact ⟨_, (true), (by first | rfl | (simp; done) | (simp [*]; done)), H', ⟨by have := HJ2.out; first | omega | exact Nat.le_refl _⟩, ⟨kX BK326.out⟩, ⟨kX BK333.out⟩, ⟨kX BK334.out⟩, ⟨kX BK335.out⟩, ⟨bS HB.out⟩⟩
    case rest =>
     clear HC57
     try clear c1
     try clear c2
     try clear p2
     try clear c3
     try clear c4
     try clear c5
     try clear c6
     try clear c10
     try clear c11
     try clear c12
     try clear c14
     try clear c15
     try clear c17
     try clear c20
     try clear c22
     try clear c24
     try clear c26
     try clear c27
     try clear c28
     try clear c30
     try clear c31
     try clear c33
     try clear c36
     try clear c37
     try clear c38
     try clear c40
     try clear c41
     try clear c43
     try clear c45
     try clear c46
     try clear c47
     try clear c49
     try clear c50
     try clear c52
     try clear c53
     try clear c54
     try clear c56
     try clear hcz13_0
     try clear hcz13_1
     try clear hcz16_0
     try clear hcz16_1
     try clear hcz18_0
     try clear hcz18_1
     try clear hcz29_0
     try clear hcz29_1
     try clear hcz29_2
     try clear hcz29_3
     try clear hcz29_4
     try clear hcz29_5
     try clear hcz32_0
     try clear hcz32_1
     try clear hcz34_0
     try clear hcz34_1
     try clear hcz35_0
     try clear hcz35_1
     try clear hcz39_0
     try clear hcz39_1
     try clear hcz39_2
     try clear hcz39_3
     try clear hcz39_4
     try clear hcz39_5
     try clear hcz42_0
     try clear hcz42_1
     try clear hcz44_0
     try clear hcz44_1
     try clear hcz48_0
     try clear hcz48_1
     try clear hcz48_2
     try clear hcz48_3
     try clear hcz48_4
     try clear hcz48_5
     try clear hcz51_0
     try clear hcz51_1
     try clear hcz55_0
     try clear hcz55_1
     try clear hcz55_2
     try clear hcz55_3
     try clear hcz55_4
     try clear hcz55_5
     try clear hcz5_0
     try clear hcz5_1
     try clear hcz5_2
     try clear hcz5_3
     try clear hcz5_4
     try clear hcz5_5
     try clear hfz13_0
     try clear hfz13_1
     try clear hfz16_0
     try clear hfz16_1
     try clear hfz18_0
     try clear hfz18_1
     try clear hfz29_0
     try clear hfz29_1
     try clear hfz29_2
     try clear hfz29_3
     try clear hfz29_4
     try clear hfz29_5
     try clear hfz32_0
     try clear hfz32_1
     try clear hfz34_0
     try clear hfz34_1
     try clear hfz35_0
     try clear hfz35_1
     try clear hfz39_0
     try clear hfz39_1
     try clear hfz39_2
     try clear hfz39_3
     try clear hfz39_4
     try clear hfz39_5
     try clear hfz42_0
     try clear hfz42_1
     try clear hfz44_0
     try clear hfz44_1
     try clear hfz48_0
     try clear hfz48_1
     try clear hfz48_2
     try clear hfz48_3
     try clear hfz48_4
     try clear hfz48_5
     try clear hfz51_0
     try clear hfz51_1
     try clear hfz55_0
     try clear hfz55_1
     try clear hfz55_2
     try clear hfz55_3
     try clear hfz55_4
     try clear hfz55_5
     try clear hfz5_0
     try clear hfz5_1
     try clear hfz5_2
     try clear hfz5_3
     try clear hfz5_4
     try clear hfz5_5
     try clear p2
     obtain ⟨kq, x72_56, rfl, HA, HJ56, BK326, BK333, BK334, BK335, HB⟩ := hcut
     cases kq with
     | zero => exact absurd HA.out (by simp [impl_ReqOk.j1])
     | succ kj56 =>
      have H := HA.out
      clear HA
      simp only [impl_ReqOk.j1] at H
      by_cases c80 : x72_56 = true
      ·subst c80
       have H1 : (some false) = some r := by rw [if_pos rfl] at H; exact H
       clear H
       have H := H1
       clear H1
       obtain rfl := Option.some.inj H
       go_wp2
       go_ret
       exact ⟨by first | rfl | (simp [errW_none, errW_some] <;> rfl) | (simp [*, errW_none, errW_some] <;> rfl), bS HB.out⟩
      ·replace c80 := Bool.eq_false_iff.mpr c80
       subst c80
       have H1 : (if a0_0 = 23 then ((impl_written.f a0_0 a0_1 a0_2 l0_3 l0_4 a0_5).bind fun t343 => (some (decide ((wrap64 (a0_5 + t343)) ≤ 65536)))) else (if a0_5 = 0 then ((impl_written.f a0_0 a0_1 a0_2 l0_3 l0_4 a0_5).bind fun t344 => (some (decide ((wrap64 (a0_1 + t344)) ≤ 65536)))) else (some false))) = some r := by rw [if_neg (show ¬ (false = true) by decide)] at H; exact H
       clear H
       have H := H1
       clear H1
       by_cases c81 : a0_0 = 23
       ·rw [if_pos c81] at H
        have c81b0 : (a0_0 == 23) = true := beq_iff_eq.mpr c81
        have c81b1 : (a0_0 != 23) = false := bne_eq_false_iff_eq.mpr c81
        clear c81
        replace H := Option.bind_eq_some_iff.mp H
        obtain ⟨t343, A820, H⟩ := H
        replace H : (some (decide ((wrap64 (a0_5 + t343)) ≤ 65536))) = some r := H
        have A82 := aM A820
        clear A820
        obtain rfl := Option.some.inj H
        have hnb83 := NB326_333.out
        have hnc83 := NB333_326.out
        have hnb84 := NB326_334.out
        have hnc84 := NB334_326.out
        have hnb85 := NB326_335.out
        have hnc85 := NB335_326.out
        obtain ⟨hcz86_0, hfz86_0, hcz86_1, hfz86_1, hcz86_2, hfz86_2, hcz86_3, hfz86_3, hcz86_4, hfz86_4, hcz86_5, hfz86_5⟩ := bk6 BK326.out
        try go_wp2
        have n0_ := aM (blk_drew BK326.out)
        have n1_ := aM (blk_drew BK333.out)
        have n2_ := aM (blk_drew BK334.out)
        have n3_ := aM (blk_drew BK335.out)
        have n4_ := aM (below_drew1 HB.out)
        clear BK326
        clear BK333
        clear BK334
        clear BK335
        clear HB
        have BK326 := n0_
        have BK333 := n1_
        have BK334 := n2_
        have BK335 := n3_
        have HB := n4_
        clear n0_ n1_ n2_ n3_ n4_
        refine start_ (n := 7) (S := fun w' => w'.cell? ⟨gb326, 0, none⟩ = some (.int .i64 a0_0) ∧ w'.cell? ⟨gb326, 1, none⟩ = some (.int .i64 a0_1) ∧ w'.cell? ⟨gb326, 2, none⟩ = some (.int .i64 a0_2) ∧ w'.cell? ⟨gb326, 3, none⟩ = some (.slice A0_3 l0_3.length c0_3) ∧ w'.cell? ⟨gb326, 4, none⟩ = some (.slice A0_4 l0_4.length c0_4) ∧ w'.cell? ⟨gb326, 5, none⟩ = some (.int .i64 a0_5)) (ds := []) #[false, false, false, false, false, false, false] (by kernel_rfl) rfl rfl ⟨(blk_cell BK326.out 0).trans rfl, (blk_cell BK326.out 1).trans rfl, (blk_cell BK326.out 2).trans rfl, (blk_cell BK326.out 3).trans rfl, (blk_cell BK326.out 4).trans rfl, (blk_cell BK326.out 5).trans rfl⟩ (fun hHeld => ?_)
        generalize wc.drew = w87 at BK326 BK333 BK334 BK335 HB hHeld ⊢
        refine pure_ (i := 0) (N := some 76) (v := ?_) (a' := ?_) #[true, false, false, false, false, false, false] rfl rfl (by kernel_rfl) (fun _ _ _ h => h) (Or.inl ⟨by rfl, ?_⟩) ?_ ?_
        rotate_left
        ·intro w'
         go_simp
         with_reducible rfl
        rotate_left
        ·simp only [Act.put, List.setIfInBounds_toArray, List.set_cons_zero, List.set_cons_succ, i64_w, i32_w]
         rfl
        refine take_ (i := 1) (N := some 77) (v := ?_) (a' := ?_) #[true, true, false, false, false, false, false] rfl rfl (by kernel_rfl) (fun _ _ _ h => h) (Or.inl ⟨by rfl, ?_⟩) hHeld ?_ ?_
        rotate_left
        ·rintro w' ⟨s0, s1, s2, s3, s4, s5⟩
         go_simp
         with_reducible rfl
        rotate_left
        ·simp only [Act.put, List.setIfInBounds_toArray, List.set_cons_zero, List.set_cons_succ, i64_w, i32_w]
         rfl
        refine take_ (i := 2) (N := some 78) (v := ?_) (a' := ?_) #[true, true, true, false, false, false, false] rfl rfl (by kernel_rfl) (fun _ _ _ h => h) (Or.inl ⟨by rfl, ?_⟩) hHeld ?_ ?_
        rotate_left
        ·rintro w' ⟨s0, s1, s2, s3, s4, s5⟩
         go_simp
         with_reducible rfl
        rotate_left
        ·simp only [Act.put, List.setIfInBounds_toArray, List.set_cons_zero, List.set_cons_succ, i64_w, i32_w]
         rfl
        refine one_ (i := 3) (N := some 79) #[true, true, true, true, false, false, false] rfl rfl (by kernel_rfl) (by decide) (fun K hK => ?_)
        refine goes_ Try.func41 (by kernel_rfl) rfl #[.agg #[.int .i64 a0_0, .int .i64 a0_1, .int .i64 a0_2, .slice A0_3 l0_3.length c0_3, .slice A0_4 l0_4.length c0_4, .int .i64 a0_5]] (by rfl) rfl rfl (by (try simp only [List.map_toArray, List.map_cons, List.map_nil]); first | done | rfl | (simp only [List.length_drop, List.length_take]; rfl)) ?_
        with_reducible refine (impl_written.calls a0_0 a0_1 a0_2 _ _ l0_3 _ _ l0_4 a0_5 t343 _ ?side1 ?side2 ?side3 ?side4 A82.out).mono ?_
        (case side1 => exact cB HR0_3.out HB.out)
        (case side2 => exact HC0_3.out)
        (case side3 => exact cB HR0_4.out HB.out)
        (case side4 => exact HC0_4.out)
        rintro e w88 ⟨rfl, hb⟩
        refine ⟨_, rfl, ?_⟩
        have n0_ := aM (kB BK326.out hb)
        have n1_ := aM (kB BK333.out hb)
        have n2_ := aM (kB BK334.out hb)
        have n3_ := aM (kB BK335.out hb)
        have n4_ := aM (below_step (bS HB.out) hb)
        clear BK326
        clear BK333
        clear BK334
        clear BK335
        clear HB
        have BK326 := n0_
        have BK333 := n1_
        have BK334 := n2_
        have BK335 := n3_
        have HB := n4_
        clear n0_ n1_ n2_ n3_ n4_
        (try clear hb)
        (try clear hb2)
        (try clear hk)
        (try clear hi)
        refine hK.out _ _ ⟨(blk_cell BK326.out 0).trans rfl, (blk_cell BK326.out 1).trans rfl, (blk_cell BK326.out 2).trans rfl, (blk_cell BK326.out 3).trans rfl, (blk_cell BK326.out 4).trans rfl, (blk_cell BK326.out 5).trans rfl⟩ (fun hHeld => ?_)
        clear hK K
        refine norm_ (a' := ?_) ?_ ?_
        rotate_left
        ·show Act.put _ (some 79) _ = _
         simp only [Act.put, List.setIfInBounds_toArray, List.set_cons_zero, List.set_cons_succ, i64_w, i32_w]
         rfl
        refine pure_ (i := 4) (N := some 80) (v := ?_) (a' := ?_) #[true, true, true, true, true, false, false] rfl rfl (by kernel_rfl) (fun _ _ _ h => h) (Or.inl ⟨by rfl, ?_⟩) ?_ ?_
        rotate_left
        ·intro w'
         go_simp
         with_reducible rfl
        rotate_left
        ·simp only [Act.put, List.setIfInBounds_toArray, List.set_cons_zero, List.set_cons_succ, i64_w, i32_w]
         rfl
        refine pure_ (i := 5) (N := some 81) (v := ?_) (a' := ?_) #[true, true, true, true, true, true, false] rfl rfl (by kernel_rfl) (fun _ _ _ h => h) (Or.inl ⟨by rfl, ?_⟩) ?_ ?_
        rotate_left
        ·intro w'
         go_simp
         with_reducible rfl
        rotate_left
        ·simp only [Act.put, List.setIfInBounds_toArray, List.set_cons_zero, List.set_cons_succ, i64_w, i32_w]
         rfl
        refine pure_ (i := 6) (N := some 2) (v := ?_) (a' := ?_) #[true, true, true, true, true, true, true] rfl rfl (by kernel_rfl) (fun _ _ _ h => h) (Or.inl ⟨by rfl, ?_⟩) ?_ ?_
        rotate_left
        ·intro w'
         go_simp
         with_reducible rfl
        rotate_left
        ·simp only [Act.put, List.setIfInBounds_toArray, List.set_cons_zero, List.set_cons_succ, i64_w, i32_w]
         rfl
        refine done_ (by kernel_rfl) ?_
        try go_wp2
        go_ret
        exact ⟨by first | rfl | (simp [errW_none, errW_some] <;> rfl) | (simp [*, errW_none, errW_some] <;> rfl), bS HB.out⟩
       ·rw [if_neg c81] at H
        have c81b0 : (a0_0 == 23) = false := beq_eq_false_iff_ne.mpr c81
        have c81b1 : (a0_0 != 23) = true := bne_iff_ne.mpr c81
        by_cases c89 : a0_5 = 0
        ·rw [if_pos c89] at H
         have c89b0 : (a0_5 == 0) = true := beq_iff_eq.mpr c89
         have c89b1 : (a0_5 != 0) = false := bne_eq_false_iff_eq.mpr c89
         clear c89
         replace H := Option.bind_eq_some_iff.mp H
         obtain ⟨t344, A900, H⟩ := H
         replace H : (some (decide ((wrap64 (a0_1 + t344)) ≤ 65536))) = some r := H
         have A90 := aM A900
         clear A900
         obtain rfl := Option.some.inj H
         have hnb91 := NB326_333.out
         have hnc91 := NB333_326.out
         have hnb92 := NB326_334.out
         have hnc92 := NB334_326.out
         have hnb93 := NB326_335.out
         have hnc93 := NB335_326.out
         obtain ⟨hcz94_0, hfz94_0, hcz94_1, hfz94_1, hcz94_2, hfz94_2, hcz94_3, hfz94_3, hcz94_4, hfz94_4, hcz94_5, hfz94_5⟩ := bk6 BK326.out
         try go_wp2
         have n0_ := aM (blk_drew BK326.out)
         have n1_ := aM (blk_drew BK333.out)
         have n2_ := aM (blk_drew BK334.out)
         have n3_ := aM (blk_drew BK335.out)
         have n4_ := aM (below_drew1 HB.out)
         clear BK326
         clear BK333
         clear BK334
         clear BK335
         clear HB
         have BK326 := n0_
         have BK333 := n1_
         have BK334 := n2_
         have BK335 := n3_
         have HB := n4_
         clear n0_ n1_ n2_ n3_ n4_
         refine start_ (n := 12) (S := fun w' => w'.cell? ⟨gb326, 0, none⟩ = some (.int .i64 a0_0) ∧ w'.cell? ⟨gb326, 1, none⟩ = some (.int .i64 a0_1) ∧ w'.cell? ⟨gb326, 2, none⟩ = some (.int .i64 a0_2) ∧ w'.cell? ⟨gb326, 3, none⟩ = some (.slice A0_3 l0_3.length c0_3) ∧ w'.cell? ⟨gb326, 4, none⟩ = some (.slice A0_4 l0_4.length c0_4) ∧ w'.cell? ⟨gb326, 5, none⟩ = some (.int .i64 a0_5)) (ds := []) #[false, false, false, false, false, false, false, false, false, false, false, false] (by kernel_rfl) rfl rfl ⟨(blk_cell BK326.out 0).trans rfl, (blk_cell BK326.out 1).trans rfl, (blk_cell BK326.out 2).trans rfl, (blk_cell BK326.out 3).trans rfl, (blk_cell BK326.out 4).trans rfl, (blk_cell BK326.out 5).trans rfl⟩ (fun hHeld => ?_); refine with_tabW impl_ReqOk.tab8 impl_ReqOk.bits8 (fun HT_ HW_ => ?_)
         generalize wc.drew = w95 at BK326 BK333 BK334 BK335 HB hHeld ⊢
         refine pure_ (i := 0) (N := some 82) (v := ?_) (a' := ?_) #[true, false, false, false, false, false, false, false, false, false, false, false] rfl rfl (any_of HT_.out (by kernel_rfl)) (fun _ _ _ h => h) (Or.inl ⟨by rfl, ?_⟩) ?_ ?_
         rotate_left
         ·intro w'
          go_simp
          with_reducible rfl
         rotate_left
         ·simp only [Act.put, List.setIfInBounds_toArray, List.set_cons_zero, List.set_cons_succ, i64_w, i32_w]
          rfl
         refine take_ (i := 1) (N := some 83) (v := ?_) (a' := ?_) #[true, true, false, false, false, false, false, false, false, false, false, false] rfl rfl (take_ofW HT_.out HW_.out (by kernel_rfl)) (fun _ _ _ h => h) (Or.inl ⟨by rfl, ?_⟩) hHeld ?_ ?_
         rotate_left
         ·rintro w' ⟨s0, s1, s2, s3, s4, s5⟩
          go_simp
          with_reducible rfl
         rotate_left
         ·simp only [Act.put, List.setIfInBounds_toArray, List.set_cons_zero, List.set_cons_succ, i64_w, i32_w]
          rfl
         refine pure_ (i := 2) (N := some 84) (v := ?_) (a' := ?_) #[true, true, true, false, false, false, false, false, false, false, false, false] rfl rfl (any_of HT_.out (by kernel_rfl)) (fun _ _ _ h => h) (Or.inl ⟨by rfl, ?_⟩) ?_ ?_
         rotate_left
         ·intro w'
          go_simp
          with_reducible rfl
         rotate_left
         ·simp only [Act.put, List.setIfInBounds_toArray, List.set_cons_zero, List.set_cons_succ, i64_w, i32_w]
          rfl
         refine pure_ (i := 3) (N := some 85) (v := ?_) (a' := ?_) #[true, true, true, true, false, false, false, false, false, false, false, false] rfl rfl (any_of HT_.out (by kernel_rfl)) (fun _ _ _ h => h) (Or.inl ⟨by rfl, ?_⟩) ?_ ?_
         rotate_left
         ·intro w'
          go_simp
          with_reducible rfl
         rotate_left
         ·simp only [Act.put, List.setIfInBounds_toArray, List.set_cons_zero, List.set_cons_succ, i64_w, i32_w]
          rfl
         refine pure_ (i := 4) (N := some 86) (v := ?_) (a' := ?_) #[true, true, true, true, true, false, false, false, false, false, false, false] rfl rfl (any_of HT_.out (by kernel_rfl)) (fun _ _ _ h => h) (Or.inl ⟨by rfl, ?_⟩) ?_ ?_
         rotate_left
         ·intro w'
          go_simp
          with_reducible rfl
         rotate_left
         ·simp only [Act.put, List.setIfInBounds_toArray, List.set_cons_zero, List.set_cons_succ, i64_w, i32_w]
          rfl
         refine take_ (i := 5) (N := some 87) (v := ?_) (a' := ?_) #[true, true, true, true, true, true, false, false, false, false, false, false] rfl rfl (take_ofW HT_.out HW_.out (by kernel_rfl)) (fun _ _ _ h => h) (Or.inl ⟨by rfl, ?_⟩) hHeld ?_ ?_
         rotate_left
         ·rintro w' ⟨s0, s1, s2, s3, s4, s5⟩
          go_simp
          with_reducible rfl
         rotate_left
         ·simp only [Act.put, List.setIfInBounds_toArray, List.set_cons_zero, List.set_cons_succ, i64_w, i32_w]
          rfl
         refine take_ (i := 6) (N := some 88) (v := ?_) (a' := ?_) #[true, true, true, true, true, true, true, false, false, false, false, false] rfl rfl (take_ofW HT_.out HW_.out (by kernel_rfl)) (fun _ _ _ h => h) (Or.inl ⟨by rfl, ?_⟩) hHeld ?_ ?_
         rotate_left
         ·rintro w' ⟨s0, s1, s2, s3, s4, s5⟩
          go_simp
          with_reducible rfl
         rotate_left
         ·simp only [Act.put, List.setIfInBounds_toArray, List.set_cons_zero, List.set_cons_succ, i64_w, i32_w]
          rfl
         refine one_ (i := 7) (N := some 89) #[true, true, true, true, true, true, true, true, false, false, false, false] rfl rfl (one_of HT_.out (by kernel_rfl)) (by decide) (fun K hK => ?_)
         refine goes_ Try.func41 (by kernel_rfl) rfl #[.agg #[.int .i64 a0_0, .int .i64 a0_1, .int .i64 a0_2, .slice A0_3 l0_3.length c0_3, .slice A0_4 l0_4.length c0_4, .int .i64 a0_5]] (by rfl) rfl rfl (by (try simp only [List.map_toArray, List.map_cons, List.map_nil]); first | done | rfl | (simp only [List.length_drop, List.length_take]; rfl)) ?_
         with_reducible refine (impl_written.calls a0_0 a0_1 a0_2 _ _ l0_3 _ _ l0_4 a0_5 t344 _ ?side1 ?side2 ?side3 ?side4 A90.out).mono ?_
         (case side1 => exact cB HR0_3.out HB.out)
         (case side2 => exact HC0_3.out)
         (case side3 => exact cB HR0_4.out HB.out)
         (case side4 => exact HC0_4.out)
         rintro e w96 ⟨rfl, hb⟩
         refine ⟨_, rfl, ?_⟩
         have n0_ := aM (kB BK326.out hb)
         have n1_ := aM (kB BK333.out hb)
         have n2_ := aM (kB BK334.out hb)
         have n3_ := aM (kB BK335.out hb)
         have n4_ := aM (below_step (bS HB.out) hb)
         clear BK326
         clear BK333
         clear BK334
         clear BK335
         clear HB
         have BK326 := n0_
         have BK333 := n1_
         have BK334 := n2_
         have BK335 := n3_
         have HB := n4_
         clear n0_ n1_ n2_ n3_ n4_
         (try clear hb)
         (try clear hb2)
         (try clear hk)
         (try clear hi)
         refine hK.out _ _ ⟨(blk_cell BK326.out 0).trans rfl, (blk_cell BK326.out 1).trans rfl, (blk_cell BK326.out 2).trans rfl, (blk_cell BK326.out 3).trans rfl, (blk_cell BK326.out 4).trans rfl, (blk_cell BK326.out 5).trans rfl⟩ (fun hHeld => ?_)
         clear hK K
         refine norm_ (a' := ?_) ?_ ?_
         rotate_left
         ·show Act.put _ (some 89) _ = _
          simp only [Act.put, List.setIfInBounds_toArray, List.set_cons_zero, List.set_cons_succ, i64_w, i32_w]
          rfl
         refine pure_ (i := 8) (N := some 90) (v := ?_) (a' := ?_) #[true, true, true, true, true, true, true, true, true, false, false, false] rfl rfl (any_of HT_.out (by kernel_rfl)) (fun _ _ _ h => h) (Or.inl ⟨by rfl, ?_⟩) ?_ ?_
         rotate_left
         ·intro w'
          go_simp
          with_reducible rfl
         rotate_left
         ·simp only [Act.put, List.setIfInBounds_toArray, List.set_cons_zero, List.set_cons_succ, i64_w, i32_w]
          rfl
         refine pure_ (i := 9) (N := some 91) (v := ?_) (a' := ?_) #[true, true, true, true, true, true, true, true, true, true, false, false] rfl rfl (any_of HT_.out (by kernel_rfl)) (fun _ _ _ h => h) (Or.inl ⟨by rfl, ?_⟩) ?_ ?_
         rotate_left
         ·intro w'
          go_simp
          with_reducible rfl
         rotate_left
         ·simp only [Act.put, List.setIfInBounds_toArray, List.set_cons_zero, List.set_cons_succ, i64_w, i32_w]
          rfl
         refine pure_ (i := 10) (N := some 92) (v := ?_) (a' := ?_) #[true, true, true, true, true, true, true, true, true, true, true, false] rfl rfl (any_of HT_.out (by kernel_rfl)) (fun _ _ _ h => h) (Or.inl ⟨by rfl, ?_⟩) ?_ ?_
         rotate_left
         ·intro w'
          go_simp
          with_reducible rfl
         rotate_left
         ·simp only [Act.put, List.setIfInBounds_toArray, List.set_cons_zero, List.set_cons_succ, i64_w, i32_w]
          rfl
         refine pure_ (i := 11) (N := some 2) (v := ?_) (a' := ?_) #[true, true, true, true, true, true, true, true, true, true, true, true] rfl rfl (any_of HT_.out (by kernel_rfl)) (fun _ _ _ h => h) (Or.inl ⟨by rfl, ?_⟩) ?_ ?_
         rotate_left
         ·intro w'
          go_simp
          with_reducible rfl
         rotate_left
         ·simp only [Act.put, List.setIfInBounds_toArray, List.set_cons_zero, List.set_cons_succ, i64_w, i32_w]
          rfl
         refine done_ (done_of HT_.out (by kernel_rfl)) ?_
         try go_wp2
         go_ret
         exact ⟨by first | rfl | (simp [errW_none, errW_some] <;> rfl) | (simp [*, errW_none, errW_some] <;> rfl), bS HB.out⟩
        ·rw [if_neg c89] at H
         have c89b0 : (a0_5 == 0) = false := beq_eq_false_iff_ne.mpr c89
         have c89b1 : (a0_5 != 0) = true := bne_iff_ne.mpr c89
         obtain rfl := Option.some.inj H
         have hnb97 := NB326_333.out
         have hnc97 := NB333_326.out
         have hnb98 := NB326_334.out
         have hnc98 := NB334_326.out
         have hnb99 := NB326_335.out
         have hnc99 := NB335_326.out
         obtain ⟨hcz100_0, hfz100_0, hcz100_1, hfz100_1, hcz100_2, hfz100_2, hcz100_3, hfz100_3, hcz100_4, hfz100_4, hcz100_5, hfz100_5⟩ := bk6 BK326.out
         try go_wp2
         have n0_ := aM (blk_drew BK326.out)
         have n1_ := aM (blk_drew BK333.out)
         have n2_ := aM (blk_drew BK334.out)
         have n3_ := aM (blk_drew BK335.out)
         have n4_ := aM (below_drew1 HB.out)
         clear BK326
         clear BK333
         clear BK334
         clear BK335
         clear HB
         have BK326 := n0_
         have BK333 := n1_
         have BK334 := n2_
         have BK335 := n3_
         have HB := n4_
         clear n0_ n1_ n2_ n3_ n4_
         refine start_ (n := 12) (S := fun w' => w'.cell? ⟨gb326, 0, none⟩ = some (.int .i64 a0_0) ∧ w'.cell? ⟨gb326, 1, none⟩ = some (.int .i64 a0_1) ∧ w'.cell? ⟨gb326, 2, none⟩ = some (.int .i64 a0_2) ∧ w'.cell? ⟨gb326, 3, none⟩ = some (.slice A0_3 l0_3.length c0_3) ∧ w'.cell? ⟨gb326, 4, none⟩ = some (.slice A0_4 l0_4.length c0_4) ∧ w'.cell? ⟨gb326, 5, none⟩ = some (.int .i64 a0_5)) (ds := []) #[false, false, false, false, false, false, false, false, false, false, false, false] (by kernel_rfl) rfl rfl ⟨(blk_cell BK326.out 0).trans rfl, (blk_cell BK326.out 1).trans rfl, (blk_cell BK326.out 2).trans rfl, (blk_cell BK326.out 3).trans rfl, (blk_cell BK326.out 4).trans rfl, (blk_cell BK326.out 5).trans rfl⟩ (fun hHeld => ?_); refine with_tabW impl_ReqOk.tab8 impl_ReqOk.bits8 (fun HT_ HW_ => ?_)
         generalize wc.drew = w101 at BK326 BK333 BK334 BK335 HB hHeld ⊢
         refine pure_ (i := 0) (N := some 82) (v := ?_) (a' := ?_) #[true, false, false, false, false, false, false, false, false, false, false, false] rfl rfl (any_of HT_.out (by kernel_rfl)) (fun _ _ _ h => h) (Or.inl ⟨by rfl, ?_⟩) ?_ ?_
         rotate_left
         ·intro w'
          go_simp
          with_reducible rfl
         rotate_left
         ·simp only [Act.put, List.setIfInBounds_toArray, List.set_cons_zero, List.set_cons_succ, i64_w, i32_w]
          rfl
         refine take_ (i := 1) (N := some 83) (v := ?_) (a' := ?_) #[true, true, false, false, false, false, false, false, false, false, false, false] rfl rfl (take_ofW HT_.out HW_.out (by kernel_rfl)) (fun _ _ _ h => h) (Or.inl ⟨by rfl, ?_⟩) hHeld ?_ ?_
         rotate_left
         ·rintro w' ⟨s0, s1, s2, s3, s4, s5⟩
          go_simp
          with_reducible rfl
         rotate_left
         ·simp only [Act.put, List.setIfInBounds_toArray, List.set_cons_zero, List.set_cons_succ, i64_w, i32_w]
          rfl
         refine pure_ (i := 2) (N := some 84) (v := ?_) (a' := ?_) #[true, true, true, false, false, false, false, false, false, false, false, false] rfl rfl (any_of HT_.out (by kernel_rfl)) (fun _ _ _ h => h) (Or.inl ⟨by rfl, ?_⟩) ?_ ?_
         rotate_left
         ·intro w'
          go_simp
          with_reducible rfl
         rotate_left
         ·simp only [Act.put, List.setIfInBounds_toArray, List.set_cons_zero, List.set_cons_succ, i64_w, i32_w]
          rfl
         refine pure_ (i := 3) (N := some 85) (v := ?_) (a' := ?_) #[true, true, true, true, false, false, false, false, false, false, false, false] rfl rfl (any_of HT_.out (by kernel_rfl)) (fun _ _ _ h => h) (Or.inl ⟨by rfl, ?_⟩) ?_ ?_
         rotate_left
         ·intro w'
          go_simp
          with_reducible rfl
         rotate_left
         ·simp only [Act.put, List.setIfInBounds_toArray, List.set_cons_zero, List.set_cons_succ, i64_w, i32_w]
          rfl
         refine pure_ (i := 4) (N := some 86) (v := undef) (a' := ?_) #[true, true, true, true, true, false, false, false, false, false, false, false] rfl rfl (any_of HT_.out (by kernel_rfl)) (fun _ _ _ h => h) (Or.inr ⟨by rfl, rfl⟩) ?_ ?_
         rotate_left
         ·simp only [Act.put, List.setIfInBounds_toArray, List.set_cons_zero, List.set_cons_succ, i64_w, i32_w]
          rfl
         refine pure_ (i := 5) (N := some 87) (v := undef) (a' := ?_) #[true, true, true, true, true, true, false, false, false, false, false, false] rfl rfl (any_of HT_.out (by kernel_rfl)) (fun _ _ _ h => h) (Or.inr ⟨by rfl, rfl⟩) ?_ ?_
         rotate_left
         ·simp only [Act.put, List.setIfInBounds_toArray, List.set_cons_zero, List.set_cons_succ, i64_w, i32_w]
          rfl
         refine pure_ (i := 6) (N := some 88) (v := undef) (a' := ?_) #[true, true, true, true, true, true, true, false, false, false, false, false] rfl rfl (any_of HT_.out (by kernel_rfl)) (fun _ _ _ h => h) (Or.inr ⟨by rfl, rfl⟩) ?_ ?_
         rotate_left
         ·simp only [Act.put, List.setIfInBounds_toArray, List.set_cons_zero, List.set_cons_succ, i64_w, i32_w]
          rfl
         refine pure_ (i := 7) (N := some 89) (v := undef) (a' := ?_) #[true, true, true, true, true, true, true, true, false, false, false, false] rfl rfl (any_of HT_.out (by kernel_rfl)) (fun _ _ _ h => h) (Or.inr ⟨by rfl, rfl⟩) ?_ ?_
         rotate_left
         ·simp only [Act.put, List.setIfInBounds_toArray, List.set_cons_zero, List.set_cons_succ, i64_w, i32_w]
          rfl
         refine pure_ (i := 8) (N := some 90) (v := undef) (a' := ?_) #[true, true, true, true, true, true, true, true, true, false, false, false] rfl rfl (any_of HT_.out (by kernel_rfl)) (fun _ _ _ h => h) (Or.inr ⟨by rfl, rfl⟩) ?_ ?_
         rotate_left
         ·simp only [Act.put, List.setIfInBounds_toArray, List.set_cons_zero, List.set_cons_succ, i64_w, i32_w]
          rfl
         refine pure_ (i := 9) (N := some 91) (v := undef) (a' := ?_) #[true, true, true, true, true, true, true, true, true, true, false, false] rfl rfl (any_of HT_.out (by kernel_rfl)) (fun _ _ _ h => h) (Or.inr ⟨by rfl, rfl⟩) ?_ ?_
         rotate_left
         ·simp only [Act.put, List.setIfInBounds_toArray, List.set_cons_zero, List.set_cons_succ, i64_w, i32_w]
          rfl
         refine pure_ (i := 10) (N := some 92) (v := ?_) (a' := ?_) #[true, true, true, true, true, true, true, true, true, true, true, false] rfl rfl (any_of HT_.out (by kernel_rfl)) (fun _ _ _ h => h) (Or.inl ⟨by rfl, ?_⟩) ?_ ?_
         rotate_left
         ·intro w'
          go_simp
          with_reducible rfl
         rotate_left
         ·simp only [Act.put, List.setIfInBounds_toArray, List.set_cons_zero, List.set_cons_succ, i64_w, i32_w]
          rfl
         refine pure_ (i := 11) (N := some 2) (v := ?_) (a' := ?_) #[true, true, true, true, true, true, true, true, true, true, true, true] rfl rfl (any_of HT_.out (by kernel_rfl)) (fun _ _ _ h => h) (Or.inl ⟨by rfl, ?_⟩) ?_ ?_
         rotate_left
         ·intro w'
          go_simp
          with_reducible rfl
         rotate_left
         ·simp only [Act.put, List.setIfInBounds_toArray, List.set_cons_zero, List.set_cons_succ, i64_w, i32_w]
          rfl
         refine done_ (done_of HT_.out (by kernel_rfl)) ?_
         try go_wp2
         go_ret
         exact ⟨by first | rfl | (simp [errW_none, errW_some] <;> rfl) | (simp [*, errW_none, errW_some] <;> rfl), bS HB.out⟩
end Go.Proofs.Ytiiodfagedcofaa.G
