/- Contracts of functions, for more than one law: what they compute. -/
import Derived.Test.YtfiplepbmennbaaProg
import Derived.Test.YtfiplepbmennbaaWMore
import Derived.Test.YtfiplepbmennbaaWRepsOne
import Derived.Test.YtfiplepbmennbaaWTab
import Derived.WalkSpells
import Derived.Test.YtfiplepbmennbaaL
import Derived.Below
import Derived.Deep.Draws
import Derived.Deep.AppendLies
import Derived.Maps.AppendAt
import Derived.OwnWalk
import Derived.Laws.BytesArg
import Derived.Laws.MakeOwn
import Derived.Laws.OwnMore
import Derived.Deep.OwnRows
import Derived.Tactics
import Derived.Lib.ConvBytes
import Derived.Laws.Slices
import Derived.WalkKit
import Derived.KernelRfl
import Derived.RowKit3
import Derived.Deep.LoopGhost
import Derived.Deep.QuietTactic
import Derived.BigQuiet
import Derived.WideLaws
import Derived.Deep.DeepCutAuto
import Derived.Deep.CutBlock
import Derived.Deep.RegionHeld3
import Derived.Laws.Rows
import Derived.Lib.AppendStr
import Derived.ArgAppend
import Derived.Laws.IdiomCopy
import Derived.OrdersHeld
import Derived.Laws.BitsLemmas
import Derived.RowKit
import Derived.Test.YtfiplepbmennbaaWWords
import Derived.Test.YtfiplepbmennbaaWLast
import Derived.Test.YtfiplepbmennbaaWFour
import Derived.Test.YtfiplepbmennbaaWQPut
import Derived.Test.YtfiplepbmennbaaWApart
import Derived.Test.YtfiplepbmennbaaWArr
import Derived.Test.YtfiplepbmennbaaWZeros
import Derived.Test.YtfiplepbmennbaaWFoot
import Derived.Test.YtfiplepbmennbaaWKept
import Derived.Test.YtfiplepbmennbaaWShare
import Derived.Test.YtfiplepbmennbaaWN
import Derived.Test.YtfiplepbmennbaaWFootNe
import Derived.Test.YtfiplepbmennbaaWAt
import Derived.Test.YtfiplepbmennbaaWEqStruct
import Derived.Test.YtfiplepbmennbaaWInv
import Derived.Test.YtfiplepbmennbaaWInvWords
import Derived.Test.YtfiplepbmennbaaWGuard
import Derived.Test.YtfiplepbmennbaaWNEv
import Derived.Test.YtfiplepbmennbaaGAllWords
import Derived.Test.YtfiplepbmennbaaGCloneD
namespace Go.Proofs.Ytfiplepbmennbaa.G
open Go.Proofs.Ytfiplepbmennbaa.K Go Go.RowKit Go.Proofs.YtfiplepbmennbaaW.PrintWords Go.Proofs.YtfiplepbmennbaaW.PrintLast Go.Proofs.YtfiplepbmennbaaW.PrintMore
attribute [local go_sem] max2_int min2_int max_two min_two max_three min_three max_four min_four   -- for this text's walks alone
set_option linter.unusedVariables false
set_option linter.unusedSimpArgs false

/-! ### impl_in: function 62 -/
def impl_in.f (a0 : Int) (a1 : Int) (a2 : Int) : Option (Bool) := if a0 ≥ a1 then (some (decide (a0 ≤ a2))) else (some false)
set_option maxHeartbeats 8000000 in
set_option maxRecDepth 100000 in
theorem impl_in.calls (a0 : Int) (a1 : Int) (a2 : Int) (r : Bool) (w : World) (h : impl_in.f a0 a1 a2 = some r) :
  Calls Try.prog 62 #[.int .i64 a0, .int .i64 a1, .int .i64 a2] w fun e w' => e = .returned (.bool r) ∧ Drawn0 w w' := by
 have H : (if a0 ≥ a1 then (some (decide (a0 ≤ a2))) else (some false)) = some r := h
 clear h
 by_cases c4 : a0 ≥ a1
 ·rw [if_pos c4] at H
  have c4b0 : decide (a1 ≤ a0) = true := decide_eq_true c4
  clear c4
  obtain rfl := Option.some.inj H
  go_enter Try.func62, Try.ntmps62
  go_wp2
  go_ret
  exact ⟨by first | rfl | (simp; done) | (simp [*]; done), by repeat (first | exact Drawn0.refl _ | apply Drawn0.step)⟩
 ·rw [if_neg c4] at H
  have c4b0 : decide (a1 ≤ a0) = false := decide_eq_false c4
  clear c4
  obtain rfl := Option.some.inj H
  go_enter Try.func62, Try.ntmps62
  go_wp2
  go_ret
  exact ⟨by first | rfl | (simp; done) | (simp [*]; done), by repeat (first | exact Drawn0.refl _ | apply Drawn0.step)⟩
/-! ### impl_isKind: function 50 -/
def impl_isKind.f (a0 : Int) : Option (Bool) := (impl_in.f a0 1 6).bind fun t145 => (if t145 = true then (some true) else (if a0 = 15 then (some true) else (if a0 = 16 then (some true) else (if a0 = 22 then (some true) else (some (a0 == 23))))))
set_option maxHeartbeats 8000000 in
set_option maxRecDepth 100000 in
theorem impl_isKind.calls (a0 : Int) (r : Bool) (w : World) (h : impl_isKind.f a0 = some r) :
  Calls Try.prog 50 #[.int .i64 a0] w fun e w' => e = .returned (.bool r) ∧ Drawn0 w w' := by
 have H : ((impl_in.f a0 1 6).bind fun t145 => (if t145 = true then (some true) else (if a0 = 15 then (some true) else (if a0 = 16 then (some true) else (if a0 = 22 then (some true) else (some (a0 == 23))))))) = some r := h
 clear h
 replace H := Option.bind_eq_some_iff.mp H
 obtain ⟨t145, A20, H⟩ := H
 replace H : (if t145 = true then (some true) else (if a0 = 15 then (some true) else (if a0 = 16 then (some true) else (if a0 = 22 then (some true) else (some (a0 == 23)))))) = some r := H
 have A2 := aM A20
 clear A20
 by_cases c3 : t145 = true
 ·subst c3
  have H1 : (some true) = some r := by rw [if_pos rfl] at H; exact H
  clear H
  have H := H1
  clear H1
  obtain rfl := Option.some.inj H
  go_enter Try.func50, Try.ntmps50
  go_wp2_with (first | ((with_reducible refine gate_callee (f := 62) rfl ?_); refine gL (some 4) rfl rfl Try.func62 (by kernel_rfl) rfl #[.int .i64 a0, .int .i64 1, .int .i64 6] rfl ?_; (with_reducible refine (impl_in.calls a0 1 6 true _ A2.out).mono ?_); rintro e w' ⟨rfl, ⟨nd, rfl⟩⟩; refine ⟨_, rfl, ?_⟩))
  go_ret
  exact ⟨by first | rfl | (simp; done) | (simp [*]; done), by repeat (first | exact Drawn0.refl _ | apply Drawn0.step)⟩
 ·replace c3 := Bool.eq_false_iff.mpr c3
  subst c3
  have H1 : (if a0 = 15 then (some true) else (if a0 = 16 then (some true) else (if a0 = 22 then (some true) else (some (a0 == 23))))) = some r := by rw [if_neg (show ¬ (false = true) by decide)] at H; exact H
  clear H
  have H := H1
  clear H1
  by_cases c4 : a0 = 15
  ·rw [if_pos c4] at H
   have c4b0 : (a0 == 15) = true := beq_iff_eq.mpr c4
   have c4b1 : (a0 != 15) = false := bne_eq_false_iff_eq.mpr c4
   clear c4
   obtain rfl := Option.some.inj H
   go_enter Try.func50, Try.ntmps50
   go_wp2_with (first | ((with_reducible refine gate_callee (f := 62) rfl ?_); refine gL (some 4) rfl rfl Try.func62 (by kernel_rfl) rfl #[.int .i64 a0, .int .i64 1, .int .i64 6] rfl ?_; (with_reducible refine (impl_in.calls a0 1 6 false _ A2.out).mono ?_); rintro e w' ⟨rfl, ⟨nd, rfl⟩⟩; refine ⟨_, rfl, ?_⟩))
   go_ret
   exact ⟨by first | rfl | (simp; done) | (simp [*]; done), by repeat (first | exact Drawn0.refl _ | apply Drawn0.step)⟩
  ·rw [if_neg c4] at H
   have c4b0 : (a0 == 15) = false := beq_eq_false_iff_ne.mpr c4
   have c4b1 : (a0 != 15) = true := bne_iff_ne.mpr c4
   by_cases c5 : a0 = 16
   ·rw [if_pos c5] at H
    have c5b0 : (a0 == 16) = true := beq_iff_eq.mpr c5
    have c5b1 : (a0 != 16) = false := bne_eq_false_iff_eq.mpr c5
    clear c5
    obtain rfl := Option.some.inj H
    go_enter Try.func50, Try.ntmps50
    go_wp2_with (first | ((with_reducible refine gate_callee (f := 62) rfl ?_); refine gL (some 4) rfl rfl Try.func62 (by kernel_rfl) rfl #[.int .i64 a0, .int .i64 1, .int .i64 6] rfl ?_; (with_reducible refine (impl_in.calls a0 1 6 false _ A2.out).mono ?_); rintro e w' ⟨rfl, ⟨nd, rfl⟩⟩; refine ⟨_, rfl, ?_⟩))
    go_ret
    exact ⟨by first | rfl | (simp; done) | (simp [*]; done), by repeat (first | exact Drawn0.refl _ | apply Drawn0.step)⟩
   ·rw [if_neg c5] at H
    have c5b0 : (a0 == 16) = false := beq_eq_false_iff_ne.mpr c5
    have c5b1 : (a0 != 16) = true := bne_iff_ne.mpr c5
    by_cases c6 : a0 = 22
    ·rw [if_pos c6] at H
     have c6b0 : (a0 == 22) = true := beq_iff_eq.mpr c6
     have c6b1 : (a0 != 22) = false := bne_eq_false_iff_eq.mpr c6
     clear c6
     obtain rfl := Option.some.inj H
     go_enter Try.func50, Try.ntmps50
     go_wp2_with (first | ((with_reducible refine gate_callee (f := 62) rfl ?_); refine gL (some 4) rfl rfl Try.func62 (by kernel_rfl) rfl #[.int .i64 a0, .int .i64 1, .int .i64 6] rfl ?_; (with_reducible refine (impl_in.calls a0 1 6 false _ A2.out).mono ?_); rintro e w' ⟨rfl, ⟨nd, rfl⟩⟩; refine ⟨_, rfl, ?_⟩))
     go_ret
     exact ⟨by first | rfl | (simp; done) | (simp [*]; done), by repeat (first | exact Drawn0.refl _ | apply Drawn0.step)⟩
    ·rw [if_neg c6] at H
     have c6b0 : (a0 == 22) = false := beq_eq_false_iff_ne.mpr c6
     have c6b1 : (a0 != 22) = true := bne_iff_ne.mpr c6
     obtain rfl := Option.some.inj H
     go_enter Try.func50, Try.ntmps50
     go_wp2_with (first | ((with_reducible refine gate_callee (f := 62) rfl ?_); refine gL (some 4) rfl rfl Try.func62 (by kernel_rfl) rfl #[.int .i64 a0, .int .i64 1, .int .i64 6] rfl ?_; (with_reducible refine (impl_in.calls a0 1 6 false _ A2.out).mono ?_); rintro e w' ⟨rfl, ⟨nd, rfl⟩⟩; refine ⟨_, rfl, ?_⟩))
     go_ret
     exact ⟨by first | rfl | (simp; done) | (simp [*]; done), by repeat (first | exact Drawn0.refl _ | apply Drawn0.step)⟩
/-! ### impl_isWord: function 64 -/
def impl_isWord.f (a0 : Int) : Option (Bool) := (impl_in.f a0 0 65535).bind fun t146 => (some t146)
set_option maxHeartbeats 8000000 in
set_option maxRecDepth 100000 in
theorem impl_isWord.calls (a0 : Int) (r : Bool) (w : World) (h : impl_isWord.f a0 = some r) :
  Calls Try.prog 64 #[.int .i64 a0] w fun e w' => e = .returned (.bool r) ∧ Drawn0 w w' := by
 have H : ((impl_in.f a0 0 65535).bind fun t146 => (some t146)) = some r := h
 clear h
 replace H := Option.bind_eq_some_iff.mp H
 obtain ⟨t146, A20, H⟩ := H
 replace H : (some t146) = some r := H
 have A2 := aM A20
 clear A20
 obtain rfl := Option.some.inj H
 go_enter Try.func64, Try.ntmps64
 go_wp2_with (first | ((with_reducible refine gate_callee (f := 62) rfl ?_); refine gL (some 4) rfl rfl Try.func62 (by kernel_rfl) rfl #[.int .i64 a0, .int .i64 0, .int .i64 65535] rfl ?_; (with_reducible refine (impl_in.calls a0 0 65535 t146 _ A2.out).mono ?_); rintro e w' ⟨rfl, ⟨nd, rfl⟩⟩; refine ⟨_, rfl, ?_⟩))
 go_ret
 exact ⟨by first | rfl | (simp; done) | (simp [*]; done), by repeat (first | exact Drawn0.refl _ | apply Drawn0.step)⟩
/-! ### impl_counts: function 93 -/
mutual
def impl_counts.j0 : Nat → Int → Bool → Int → Int → Int → Int → Option (Int × Int × Int × Int × Int × Int)
 | 0, _, _, _, _, _, _ => none
 | k + 1, x9, x10, x152000, x152001, x153000, x153001 => if x10 = true then (some (1, 2000, x152000, x152001, x152000, x152001)) else (if x9 = 3 then (impl_counts.j1 k x9 (x9 == 3) x152000 x152001 x153000 x153001) else (impl_counts.j1 k x9 (x9 == 4) x152000 x152001 x153000 x153001))
def impl_counts.j1 : Nat → Int → Bool → Int → Int → Int → Int → Option (Int × Int × Int × Int × Int × Int)
 | 0, _, _, _, _, _, _ => none
 | k + 1, x9, x16, x152000, x152001, x153000, x153001 => if x16 = true then (some (1, 125, x152000, x152001, x152000, x152001)) else (if x9 = 5 then (some (x152000, x152001, x152000, x152001, x153000, x153001)) else (if x9 = 6 then (some (x152000, x152001, x153000, x153001, x152000, x152001)) else (if x9 = 15 then (some (x152000, x152001, x152000, x152001, 1, 1968)) else (if x9 = 16 then (some (x152000, x152001, 1, 123, x152000, x152001)) else (if x9 = 22 then (some (x152000, x152001, 2, 2, x152000, x152001)) else (some (1, 125, 1, 121, x152000, x152001)))))))
end
def impl_counts.f (k : Nat) (a0 : Int) : Option (Int × Int × Int × Int × Int × Int) := if a0 = 1 then (impl_counts.j0 k a0 (a0 == 1) 0 0 1 1) else (impl_counts.j0 k a0 (a0 == 2) 0 0 1 1)
theorem impl_counts.mono_l : ∀ k, (∀ y0 y1 y2 y3 y4 y5, LeO (impl_counts.j0 k y0 y1 y2 y3 y4 y5) (impl_counts.j0 (k + 1) y0 y1 y2 y3 y4 y5)) ∧ (∀ y0 y1 y2 y3 y4 y5, LeO (impl_counts.j1 k y0 y1 y2 y3 y4 y5) (impl_counts.j1 (k + 1) y0 y1 y2 y3 y4 y5))
 | 0 => ⟨fun _ _ _ _ _ _ r h => by simp [impl_counts.j0] at h, fun _ _ _ _ _ _ r h => by simp [impl_counts.j1] at h⟩
 | k + 1 => by
  obtain ⟨ih0, ih1⟩ := impl_counts.mono_l k
  refine ⟨?_, ?_⟩
  ·intro y0 y1 y2 y3 y4 y5
   unfold impl_counts.j0
   repeat' first
   | (with_reducible exact ih0 _ _ _ _ _ _)
   | (with_reducible exact ih1 _ _ _ _ _ _)
   | (with_reducible exact LeO.refl _)
   | (with_reducible exact LeO.none _)
   | (with_reducible refine LeO.ite ?_ ?_)
   | (with_reducible refine LeO.bind ?_ (fun _ => ?_))
   | exact ih0 _ _ _ _ _ _
   | exact ih1 _ _ _ _ _ _
   | exact LeO.none _
   | refine LeO.ite ?_ ?_
   | refine LeO.bind ?_ (fun _ => ?_)
  ·intro y0 y1 y2 y3 y4 y5
   unfold impl_counts.j1
   repeat' first
   | (with_reducible exact ih0 _ _ _ _ _ _)
   | (with_reducible exact ih1 _ _ _ _ _ _)
   | (with_reducible exact LeO.refl _)
   | (with_reducible exact LeO.none _)
   | (with_reducible refine LeO.ite ?_ ?_)
   | (with_reducible refine LeO.bind ?_ (fun _ => ?_))
   | exact ih0 _ _ _ _ _ _
   | exact ih1 _ _ _ _ _ _
   | exact LeO.none _
   | refine LeO.ite ?_ ?_
   | refine LeO.bind ?_ (fun _ => ?_)
theorem impl_counts.mono : ∀ a0 k, LeO (impl_counts.f k a0) (impl_counts.f (k + 1) a0) := by
 intro a0 k
 obtain ⟨ih0, ih1⟩ := impl_counts.mono_l k
 unfold impl_counts.f
 repeat' first
   | (with_reducible exact ih0 _ _ _ _ _ _)
   | (with_reducible exact ih1 _ _ _ _ _ _)
   | (with_reducible exact LeO.refl _)
   | (with_reducible exact LeO.none _)
   | (with_reducible refine LeO.ite ?_ ?_)
   | (with_reducible refine LeO.bind ?_ (fun _ => ?_))
   | exact ih0 _ _ _ _ _ _
   | exact ih1 _ _ _ _ _ _
   | exact LeO.none _
   | refine LeO.ite ?_ ?_
   | refine LeO.bind ?_ (fun _ => ?_)
set_option maxHeartbeats 8000000 in
set_option maxRecDepth 100000 in
theorem impl_counts.calls (k : Nat) (a0 : Int) (r1 : Int) (r2 : Int) (r3 : Int) (r4 : Int) (r5 : Int) (r6 : Int) (w : World) (h : impl_counts.f k a0 = some (r1, r2, r3, r4, r5, r6)) :
  Calls Try.prog 93 #[.int .i64 a0] w fun e w' => e = .returned (.tuple #[.agg #[.int .i64 r1, .int .i64 r2], .agg #[.int .i64 r3, .int .i64 r4], .agg #[.int .i64 r5, .int .i64 r6]]) ∧ Below w.heap.size w w' := by
 have hu81 := Try.underlying81
 have HB := aM (Below.refl w.heap.size w)
 have H : (if a0 = 1 then (impl_counts.j0 k a0 (a0 == 1) 0 0 1 1) else (impl_counts.j0 k a0 (a0 == 2) 0 0 1 1)) = some (r1, r2, r3, r4, r5, r6) := h
 clear h
 have HC2 := aM H
 clear H
 go_enter Try.func93, Try.ntmps93
 go_upto_if 10 with (first | ((with_reducible refine gate_dst (N := 2) rfl ?_); refine box_event ?hg (N := 2) ?hd (cs := #[.int .i64 0, .int .i64 0]) (t := 81) ?hr ?_; (case hd => rfl); (case hg => rfl); (case hr => first | (go_simp; done) | (go_simp; rfl)); intro gb148 hg w3 hbox hb; have _ := aM (below_step (bS HB.out) hb); have _ := aM (hbox); have _ := aM (leG hg (bS HB.out)); have _ := aM (leG hg (bS HB.out)); clear HB; rename_i HB BK148 GW148 GE148; clear hb hbox hg) | ((with_reducible refine gate_dst (N := 3) rfl ?_); refine box_event ?hg (N := 3) ?hd (cs := #[.int .i64 0, .int .i64 0]) (t := 81) ?hr ?_; (case hd => rfl); (case hg => rfl); (case hr => first | (go_simp; done) | (go_simp; rfl)); intro gb149 hg w4 hbox hb; have _ := aM (kB BK148.out hb); have _ := aM (below_step (bS HB.out) hb); have _ := aM (hbox); have _ := aM (leG hg (bS HB.out)); have _ := aM (leG hg (bS HB.out)); have _ := aM (neL hg (kA BK148.out)); have _ := aM (neG hg (kA BK148.out)); clear BK148 HB; rename_i BK148 HB BK149 GW149 GE149 NB148_149 NB149_148; clear hb hbox hg) | ((with_reducible refine gate_dst (N := 4) rfl ?_); refine box_event ?hg (N := 4) ?hd (cs := #[.int .i64 0, .int .i64 0]) (t := 81) ?hr ?_; (case hd => rfl); (case hg => rfl); (case hr => first | (go_simp; done) | (go_simp; rfl)); intro gb150 hg w5 hbox hb; have _ := aM (kB BK148.out hb); have _ := aM (kB BK149.out hb); have _ := aM (below_step (bS HB.out) hb); have _ := aM (hbox); have _ := aM (leG hg (bS HB.out)); have _ := aM (leG hg (bS HB.out)); have _ := aM (neL hg (kA BK148.out)); have _ := aM (neG hg (kA BK148.out)); have _ := aM (neL hg (kA BK149.out)); have _ := aM (neG hg (kA BK149.out)); clear BK148 BK149 HB; rename_i BK148 BK149 HB BK150 GW150 GE150 NB148_150 NB150_148 NB149_150 NB150_149; clear hb hbox hg) | ((with_reducible refine gate_dst (N := 5) rfl ?_); refine box_event ?hg (N := 5) ?hd (cs := #[.int .i64 0, .int .i64 0]) (t := 81) ?hr ?_; (case hd => rfl); (case hg => rfl); (case hr => first | (go_simp; done) | (go_simp; rfl)); intro gb151 hg w6 hbox hb; have _ := aM (kB BK148.out hb); have _ := aM (kB BK149.out hb); have _ := aM (kB BK150.out hb); have _ := aM (below_step (bS HB.out) hb); have _ := aM (hbox); have _ := aM (leG hg (bS HB.out)); have _ := aM (leG hg (bS HB.out)); have _ := aM (neL hg (kA BK148.out)); have _ := aM (neG hg (kA BK148.out)); have _ := aM (neL hg (kA BK149.out)); have _ := aM (neG hg (kA BK149.out)); have _ := aM (neL hg (kA BK150.out)); have _ := aM (neG hg (kA BK150.out)); clear BK148 BK149 BK150 HB; rename_i BK148 BK149 BK150 HB BK151 GW151 GE151 NB148_151 NB151_148 NB149_151 NB151_149 NB150_151 NB151_150; clear hb hbox hg) | ((with_reducible refine gate_dst (N := 6) rfl ?_); refine box_event ?hg (N := 6) ?hd (cs := #[.int .i64 0, .int .i64 0]) (t := 81) ?hr ?_; (case hd => rfl); (case hg => rfl); (case hr => first | (go_simp; done) | (go_simp; rfl)); intro gb152 hg w7 hbox hb; have _ := aM (kB BK148.out hb); have _ := aM (kB BK149.out hb); have _ := aM (kB BK150.out hb); have _ := aM (kB BK151.out hb); have _ := aM (below_step (bS HB.out) hb); have _ := aM (hbox); have _ := aM (leG hg (bS HB.out)); have _ := aM (leG hg (bS HB.out)); have _ := aM (neL hg (kA BK148.out)); have _ := aM (neG hg (kA BK148.out)); have _ := aM (neL hg (kA BK149.out)); have _ := aM (neG hg (kA BK149.out)); have _ := aM (neL hg (kA BK150.out)); have _ := aM (neG hg (kA BK150.out)); have _ := aM (neL hg (kA BK151.out)); have _ := aM (neG hg (kA BK151.out)); clear BK148 BK149 BK150 BK151 HB; rename_i BK148 BK149 BK150 BK151 HB BK152 GW152 GE152 NB148_152 NB152_148 NB149_152 NB152_149 NB150_152 NB152_150 NB151_152 NB152_151; clear hb hbox hg; have hnb8 := NB151_148.out; have hnc8 := NB148_151.out; have hnb9 := NB151_149.out; have hnc9 := NB149_151.out; have hnb10 := NB151_150.out; have hnc10 := NB150_151.out; have hnb11 := NB151_152.out; have hnc11 := NB152_151.out; obtain ⟨hcz12_0, hfz12_0, hcz12_1, hfz12_1⟩ := bk2 BK151.out; have hnb13 := NB152_148.out; have hnc13 := NB148_152.out; have hnb14 := NB152_149.out; have hnc14 := NB149_152.out; have hnb15 := NB152_150.out; have hnc15 := NB150_152.out; obtain ⟨hcz16_0, hfz16_0, hcz16_1, hfz16_1⟩ := bk2 BK152.out))
 (try simp only [Act.put, List.setIfInBounds_toArray, List.set_cons_zero, List.set_cons_succ])
 go_cut [10] (fun v10 wc => ∃ (kq : Nat) (x10_1 : Bool), v10 = .bool x10_1 ∧ Aside0 (impl_counts.j0 kq a0 x10_1 0 0 1 1 = some (r1, r2, r3, r4, r5, r6)) ∧ Aside0 (kq ≤ k) ∧ Aside0 (wc.heap[gb148]? = some (.cells #[.int .i64 0, .int .i64 0] 81 (0, 0))) ∧ Aside0 (wc.heap[gb149]? = some (.cells #[.int .i64 0, .int .i64 0] 81 (0, 0))) ∧ Aside0 (wc.heap[gb150]? = some (.cells #[.int .i64 0, .int .i64 0] 81 (0, 0))) ∧ Aside0 (wc.heap[gb151]? = some (.cells #[.int .i64 0, .int .i64 0] 81 (0, 0))) ∧ Aside0 (wc.heap[gb152]? = some (.cells #[.int .i64 1, .int .i64 1] 81 (0, 0))) ∧ Aside0 (Below w.heap.size w wc))
 case first =>
  have H := HC2.out
  clear HC2
  by_cases c17 : a0 = 1
  ·rw [if_pos c17] at H
   have c17b0 : (a0 == 1) = true := beq_iff_eq.mpr c17
   have c17b1 : (a0 != 1) = false := bne_eq_false_iff_eq.mpr c17
   clear c17
   (first | rw [c17b0] | (simp only [i64_w, i32_w]; rw [c17b0]) | skip)
   have H' := aM H
   clear H
   go_wp2
   go_meet
   case rel => exact ⟨_, ((a0 == 1)), (by first | rfl | (simp; done) | (simp [*]; done)), H', ⟨by first | omega | exact Nat.le_refl _⟩, ⟨by (with_reducible repeat (first | refine blk_drewN ?_ _ | refine blk_drew ?_ | refine blk_alloc ?_ _)); refine blk_far ?_ NB148_152.out _; (with_reducible repeat (first | refine blk_drewN ?_ _ | refine blk_drew ?_ | refine blk_alloc ?_ _)); refine blk_far ?_ NB148_152.out _; (with_reducible repeat (first | refine blk_drewN ?_ _ | refine blk_drew ?_ | refine blk_alloc ?_ _)); refine blk_far ?_ NB148_151.out _; (with_reducible repeat (first | refine blk_drewN ?_ _ | refine blk_drew ?_ | refine blk_alloc ?_ _)); refine blk_far ?_ NB148_151.out _; (with_reducible repeat (first | refine blk_drewN ?_ _ | refine blk_drew ?_ | refine blk_alloc ?_ _)); exact BK148.out⟩, ⟨by (with_reducible repeat (first | refine blk_drewN ?_ _ | refine blk_drew ?_ | refine blk_alloc ?_ _)); refine blk_far ?_ NB149_152.out _; (with_reducible repeat (first | refine blk_drewN ?_ _ | refine blk_drew ?_ | refine blk_alloc ?_ _)); refine blk_far ?_ NB149_152.out _; (with_reducible repeat (first | refine blk_drewN ?_ _ | refine blk_drew ?_ | refine blk_alloc ?_ _)); refine blk_far ?_ NB149_151.out _; (with_reducible repeat (first | refine blk_drewN ?_ _ | refine blk_drew ?_ | refine blk_alloc ?_ _)); refine blk_far ?_ NB149_151.out _; (with_reducible repeat (first | refine blk_drewN ?_ _ | refine blk_drew ?_ | refine blk_alloc ?_ _)); exact BK149.out⟩, ⟨by (with_reducible repeat (first | refine blk_drewN ?_ _ | refine blk_drew ?_ | refine blk_alloc ?_ _)); refine blk_far ?_ NB150_152.out _; (with_reducible repeat (first | refine blk_drewN ?_ _ | refine blk_drew ?_ | refine blk_alloc ?_ _)); refine blk_far ?_ NB150_152.out _; (with_reducible repeat (first | refine blk_drewN ?_ _ | refine blk_drew ?_ | refine blk_alloc ?_ _)); refine blk_far ?_ NB150_151.out _; (with_reducible repeat (first | refine blk_drewN ?_ _ | refine blk_drew ?_ | refine blk_alloc ?_ _)); refine blk_far ?_ NB150_151.out _; (with_reducible repeat (first | refine blk_drewN ?_ _ | refine blk_drew ?_ | refine blk_alloc ?_ _)); exact BK150.out⟩, ⟨by (with_reducible repeat (first | refine blk_drewN ?_ _ | refine blk_drew ?_ | refine blk_alloc ?_ _)); refine blk_far ?_ NB151_152.out _; (with_reducible repeat (first | refine blk_drewN ?_ _ | refine blk_drew ?_ | refine blk_alloc ?_ _)); refine blk_far ?_ NB151_152.out _; (with_reducible repeat (first | refine blk_drewN ?_ _ | refine blk_drew ?_ | refine blk_alloc ?_ _)); refine blk_put (cs := #[.int .i64 0, .int .i64 0]) ?_ 1 _ rfl; (with_reducible repeat (first | refine blk_drewN ?_ _ | refine blk_drew ?_ | refine blk_alloc ?_ _)); refine blk_put (cs := #[.int .i64 0, .int .i64 0]) ?_ 0 _ rfl; (with_reducible repeat (first | refine blk_drewN ?_ _ | refine blk_drew ?_ | refine blk_alloc ?_ _)); exact BK151.out⟩, ⟨by (with_reducible repeat (first | refine blk_drewN ?_ _ | refine blk_drew ?_ | refine blk_alloc ?_ _)); refine blk_put (cs := #[.int .i64 1, .int .i64 0]) ?_ 1 _ rfl; (with_reducible repeat (first | refine blk_drewN ?_ _ | refine blk_drew ?_ | refine blk_alloc ?_ _)); refine blk_put (cs := #[.int .i64 0, .int .i64 0]) ?_ 0 _ rfl; (with_reducible repeat (first | refine blk_drewN ?_ _ | refine blk_drew ?_ | refine blk_alloc ?_ _)); refine blk_far ?_ NB152_151.out _; (with_reducible repeat (first | refine blk_drewN ?_ _ | refine blk_drew ?_ | refine blk_alloc ?_ _)); refine blk_far ?_ NB152_151.out _; (with_reducible repeat (first | refine blk_drewN ?_ _ | refine blk_drew ?_ | refine blk_alloc ?_ _)); exact BK152.out⟩, ⟨bS HB.out⟩⟩
  ·rw [if_neg c17] at H
   have c17b0 : (a0 == 1) = false := beq_eq_false_iff_ne.mpr c17
   have c17b1 : (a0 != 1) = true := bne_iff_ne.mpr c17
   (first | rw [c17b0] | (simp only [i64_w, i32_w]; rw [c17b0]) | skip)
   have H' := aM H
   clear H
   go_wp2
   go_meet
   case rel => exact ⟨_, ((a0 == 2)), (by first | rfl | (simp; done) | (simp [*]; done)), H', ⟨by first | omega | exact Nat.le_refl _⟩, ⟨by (with_reducible repeat (first | refine blk_drewN ?_ _ | refine blk_drew ?_ | refine blk_alloc ?_ _)); refine blk_far ?_ NB148_152.out _; (with_reducible repeat (first | refine blk_drewN ?_ _ | refine blk_drew ?_ | refine blk_alloc ?_ _)); refine blk_far ?_ NB148_152.out _; (with_reducible repeat (first | refine blk_drewN ?_ _ | refine blk_drew ?_ | refine blk_alloc ?_ _)); refine blk_far ?_ NB148_151.out _; (with_reducible repeat (first | refine blk_drewN ?_ _ | refine blk_drew ?_ | refine blk_alloc ?_ _)); refine blk_far ?_ NB148_151.out _; (with_reducible repeat (first | refine blk_drewN ?_ _ | refine blk_drew ?_ | refine blk_alloc ?_ _)); exact BK148.out⟩, ⟨by (with_reducible repeat (first | refine blk_drewN ?_ _ | refine blk_drew ?_ | refine blk_alloc ?_ _)); refine blk_far ?_ NB149_152.out _; (with_reducible repeat (first | refine blk_drewN ?_ _ | refine blk_drew ?_ | refine blk_alloc ?_ _)); refine blk_far ?_ NB149_152.out _; (with_reducible repeat (first | refine blk_drewN ?_ _ | refine blk_drew ?_ | refine blk_alloc ?_ _)); refine blk_far ?_ NB149_151.out _; (with_reducible repeat (first | refine blk_drewN ?_ _ | refine blk_drew ?_ | refine blk_alloc ?_ _)); refine blk_far ?_ NB149_151.out _; (with_reducible repeat (first | refine blk_drewN ?_ _ | refine blk_drew ?_ | refine blk_alloc ?_ _)); exact BK149.out⟩, ⟨by (with_reducible repeat (first | refine blk_drewN ?_ _ | refine blk_drew ?_ | refine blk_alloc ?_ _)); refine blk_far ?_ NB150_152.out _; (with_reducible repeat (first | refine blk_drewN ?_ _ | refine blk_drew ?_ | refine blk_alloc ?_ _)); refine blk_far ?_ NB150_152.out _; (with_reducible repeat (first | refine blk_drewN ?_ _ | refine blk_drew ?_ | refine blk_alloc ?_ _)); refine blk_far ?_ NB150_151.out _; (with_reducible repeat (first | refine blk_drewN ?_ _ | refine blk_drew ?_ | refine blk_alloc ?_ _)); refine blk_far ?_ NB150_151.out _; (with_reducible repeat (first | refine blk_drewN ?_ _ | refine blk_drew ?_ | refine blk_alloc ?_ _)); exact BK150.out⟩, ⟨by (with_reducible repeat (first | refine blk_drewN ?_ _ | refine blk_drew ?_ | refine blk_alloc ?_ _)); refine blk_far ?_ NB151_152.out _; (with_reducible repeat (first | refine blk_drewN ?_ _ | refine blk_drew ?_ | refine blk_alloc ?_ _)); refine blk_far ?_ NB151_152.out _; (with_reducible repeat (first | refine blk_drewN ?_ _ | refine blk_drew ?_ | refine blk_alloc ?_ _)); refine blk_put (cs := #[.int .i64 0, .int .i64 0]) ?_ 1 _ rfl; (with_reducible repeat (first | refine blk_drewN ?_ _ | refine blk_drew ?_ | refine blk_alloc ?_ _)); refine blk_put (cs := #[.int .i64 0, .int .i64 0]) ?_ 0 _ rfl; (with_reducible repeat (first | refine blk_drewN ?_ _ | refine blk_drew ?_ | refine blk_alloc ?_ _)); exact BK151.out⟩, ⟨by (with_reducible repeat (first | refine blk_drewN ?_ _ | refine blk_drew ?_ | refine blk_alloc ?_ _)); refine blk_put (cs := #[.int .i64 1, .int .i64 0]) ?_ 1 _ rfl; (with_reducible repeat (first | refine blk_drewN ?_ _ | refine blk_drew ?_ | refine blk_alloc ?_ _)); refine blk_put (cs := #[.int .i64 0, .int .i64 0]) ?_ 0 _ rfl; (with_reducible repeat (first | refine blk_drewN ?_ _ | refine blk_drew ?_ | refine blk_alloc ?_ _)); refine blk_far ?_ NB152_151.out _; (with_reducible repeat (first | refine blk_drewN ?_ _ | refine blk_drew ?_ | refine blk_alloc ?_ _)); refine blk_far ?_ NB152_151.out _; (with_reducible repeat (first | refine blk_drewN ?_ _ | refine blk_drew ?_ | refine blk_alloc ?_ _)); exact BK152.out⟩, ⟨bS HB.out⟩⟩
 case rest =>
  clear HC2
  try clear hcz12_0
  try clear hcz12_1
  try clear hcz16_0
  try clear hcz16_1
  try clear hfz12_0
  try clear hfz12_1
  try clear hfz16_0
  try clear hfz16_1
  obtain ⟨kq, x10_1, rfl, HA, HJ1, BK148, BK149, BK150, BK151, BK152, HB⟩ := hcut
  cases kq with
  | zero => exact absurd HA.out (by simp [impl_counts.j0])
  | succ kj1 =>
   have H := HA.out
   clear HA
   simp only [impl_counts.j0] at H
   by_cases c18 : x10_1 = true
   ·subst c18
    have H1 : (some (1, 2000, 0, 0, 0, 0)) = some (r1, r2, r3, r4, r5, r6) := by rw [if_pos rfl] at H; exact H
    clear H
    have H := H1
    clear H1
    simp only [Option.some.injEq, Prod.mk.injEq] at H
    obtain ⟨rfl, rfl, rfl, rfl, rfl, rfl⟩ := H
    try go_wp2
    have n0_ := aM (blk_drew BK148.out)
    have n1_ := aM (blk_drew BK149.out)
    have n2_ := aM (blk_drew BK150.out)
    have n3_ := aM (blk_drew BK151.out)
    have n4_ := aM (blk_drew BK152.out)
    have n5_ := aM (below_drew1 HB.out)
    clear BK148
    clear BK149
    clear BK150
    clear BK151
    clear BK152
    clear HB
    have BK148 := n0_
    have BK149 := n1_
    have BK150 := n2_
    have BK151 := n3_
    have BK152 := n4_
    have HB := n5_
    clear n0_ n1_ n2_ n3_ n4_ n5_
    refine start_ (n := 6) (S := fun w' => w'.cell? ⟨gb151, 0, none⟩ = some (.int .i64 0) ∧ w'.cell? ⟨gb151, 1, none⟩ = some (.int .i64 0)) (ds := []) #[false, false, false, false, false, false] (by kernel_rfl) rfl rfl ⟨(blk_cell BK151.out 0).trans rfl, (blk_cell BK151.out 1).trans rfl⟩ (fun hHeld => ?_)
    generalize wc.drew = w19 at BK148 BK149 BK150 BK151 BK152 HB hHeld ⊢
    refine pure_ (i := 0) (N := some 13) (v := ?_) (a' := ?_) #[true, false, false, false, false, false] rfl rfl (by kernel_rfl) (fun _ _ _ h => h) (Or.inl ⟨by rfl, ?_⟩) ?_ ?_
    rotate_left
    ·intro w'
     go_simp
     with_reducible rfl
    rotate_left
    ·simp only [Act.put, List.setIfInBounds_toArray, List.set_cons_zero, List.set_cons_succ, i64_w, i32_w]
     rfl
    refine take_ (i := 1) (N := some 14) (v := ?_) (a' := ?_) #[true, true, false, false, false, false] rfl rfl (by kernel_rfl) (fun _ _ _ h => h) (Or.inl ⟨by rfl, ?_⟩) hHeld ?_ ?_
    rotate_left
    ·rintro w' ⟨s0, s1⟩
     go_simp
     with_reducible rfl
    rotate_left
    ·simp only [Act.put, List.setIfInBounds_toArray, List.set_cons_zero, List.set_cons_succ, i64_w, i32_w]
     rfl
    refine take_ (i := 2) (N := some 15) (v := ?_) (a' := ?_) #[true, true, true, false, false, false] rfl rfl (by kernel_rfl) (fun _ _ _ h => h) (Or.inl ⟨by rfl, ?_⟩) hHeld ?_ ?_
    rotate_left
    ·rintro w' ⟨s0, s1⟩
     go_simp
     with_reducible rfl
    rotate_left
    ·simp only [Act.put, List.setIfInBounds_toArray, List.set_cons_zero, List.set_cons_succ, i64_w, i32_w]
     rfl
    refine one_ (i := 3) (N := none) #[true, true, true, true, false, false] rfl rfl (by kernel_rfl) (by decide) (fun K hK => ?_)
    have hs20 : w19.cell? ⟨gb148, 0, none⟩ = some (.int .i64 0) := (blk_cell BK148.out 0).trans rfl
    have hfs20 := blk_frozen BK148.out 0
    have hns20_1 := NB149_148.out
    have hns20_2 := NB150_148.out
    have hns20_3 := NB151_148.out
    have hns20_4 := NB152_148.out
    have hms20_1 := NB148_149.out
    have hms20_2 := NB148_150.out
    have hms20_3 := NB148_151.out
    have hms20_4 := NB148_152.out
    have hs21 : w19.cell? ⟨gb148, 1, none⟩ = some (.int .i64 0) := (blk_cell BK148.out 1).trans rfl
    have hfs21 := blk_frozen BK148.out 1
    have hns21_1 := NB149_148.out
    have hns21_2 := NB150_148.out
    have hns21_3 := NB151_148.out
    have hns21_4 := NB152_148.out
    have hms21_1 := NB148_149.out
    have hms21_2 := NB148_150.out
    have hms21_3 := NB148_151.out
    have hms21_4 := NB148_152.out
    refine skip_ (w1 := ?_) (by rfl) rfl ?_ ?_
    rotate_left
    ·go_simp
     rfl
    refine hK.out _ _ ⟨((cell_far (p := ⟨gb148, _, none⟩) NB151_148.out _).trans (((cell_far (p := ⟨gb148, _, none⟩) NB151_148.out _).trans (hHeld.1)))), ((cell_far (p := ⟨gb148, _, none⟩) NB151_148.out _).trans (((cell_far (p := ⟨gb148, _, none⟩) NB151_148.out _).trans (hHeld.2))))⟩ (fun hHeld => ?_)
    clear hK K
    refine one_ (i := 4) (N := none) #[true, true, true, true, true, false] rfl rfl (by kernel_rfl) (by decide) (fun K hK => ?_)
    have hs22 : w19.cell? ⟨gb149, 0, none⟩ = some (.int .i64 0) := (blk_cell BK149.out 0).trans rfl
    have hfs22 := blk_frozen BK149.out 0
    have hns22_0 := NB148_149.out
    have hns22_2 := NB150_149.out
    have hns22_3 := NB151_149.out
    have hns22_4 := NB152_149.out
    have hms22_0 := NB149_148.out
    have hms22_2 := NB149_150.out
    have hms22_3 := NB149_151.out
    have hms22_4 := NB149_152.out
    have hs23 : w19.cell? ⟨gb149, 1, none⟩ = some (.int .i64 0) := (blk_cell BK149.out 1).trans rfl
    have hfs23 := blk_frozen BK149.out 1
    have hns23_0 := NB148_149.out
    have hns23_2 := NB150_149.out
    have hns23_3 := NB151_149.out
    have hns23_4 := NB152_149.out
    have hms23_0 := NB149_148.out
    have hms23_2 := NB149_150.out
    have hms23_3 := NB149_151.out
    have hms23_4 := NB149_152.out
    refine skip_ (w1 := ?_) (by rfl) rfl ?_ ?_
    rotate_left
    ·go_simp
     rfl
    refine hK.out _ _ ⟨((cell_far (p := ⟨gb149, _, none⟩) NB151_149.out _).trans (((cell_far (p := ⟨gb149, _, none⟩) NB151_149.out _).trans (hHeld.1)))), ((cell_far (p := ⟨gb149, _, none⟩) NB151_149.out _).trans (((cell_far (p := ⟨gb149, _, none⟩) NB151_149.out _).trans (hHeld.2))))⟩ (fun hHeld => ?_)
    clear hK K
    refine one_ (i := 5) (N := none) #[true, true, true, true, true, true] rfl rfl (by kernel_rfl) (by decide) (fun K hK => ?_)
    have hs24 : w19.cell? ⟨gb150, 0, none⟩ = some (.int .i64 0) := (blk_cell BK150.out 0).trans rfl
    have hfs24 := blk_frozen BK150.out 0
    have hns24_0 := NB148_150.out
    have hns24_1 := NB149_150.out
    have hns24_3 := NB151_150.out
    have hns24_4 := NB152_150.out
    have hms24_0 := NB150_148.out
    have hms24_1 := NB150_149.out
    have hms24_3 := NB150_151.out
    have hms24_4 := NB150_152.out
    have hs25 : w19.cell? ⟨gb150, 1, none⟩ = some (.int .i64 0) := (blk_cell BK150.out 1).trans rfl
    have hfs25 := blk_frozen BK150.out 1
    have hns25_0 := NB148_150.out
    have hns25_1 := NB149_150.out
    have hns25_3 := NB151_150.out
    have hns25_4 := NB152_150.out
    have hms25_0 := NB150_148.out
    have hms25_1 := NB150_149.out
    have hms25_3 := NB150_151.out
    have hms25_4 := NB150_152.out
    refine skip_ (w1 := ?_) (by rfl) rfl ?_ ?_
    rotate_left
    ·go_simp
     rfl
    refine hK.out _ _ ⟨((cell_far (p := ⟨gb150, _, none⟩) NB151_150.out _).trans (((cell_far (p := ⟨gb150, _, none⟩) NB151_150.out _).trans (hHeld.1)))), ((cell_far (p := ⟨gb150, _, none⟩) NB151_150.out _).trans (((cell_far (p := ⟨gb150, _, none⟩) NB151_150.out _).trans (hHeld.2))))⟩ (fun hHeld => ?_)
    clear hK K
    refine done_ (by kernel_rfl) ?_
    try go_wp2
    refine bodyPost_ret (results_list (rs := [.cell 2 81, .cell 3 81, .cell 4 81]) rfl (by simp) (.cell gb148 81 #[.int .i64 1, .int .i64 2000] (0, 0) _ rfl (by (with_reducible repeat (first | refine blk_drewN ?_ _ | refine blk_drew ?_ | refine blk_alloc ?_ _)); refine blk_far ?_ NB148_150.out _; (with_reducible repeat (first | refine blk_drewN ?_ _ | refine blk_drew ?_ | refine blk_alloc ?_ _)); refine blk_far ?_ NB148_150.out _; (with_reducible repeat (first | refine blk_drewN ?_ _ | refine blk_drew ?_ | refine blk_alloc ?_ _)); refine blk_far ?_ NB148_149.out _; (with_reducible repeat (first | refine blk_drewN ?_ _ | refine blk_drew ?_ | refine blk_alloc ?_ _)); refine blk_far ?_ NB148_149.out _; (with_reducible repeat (first | refine blk_drewN ?_ _ | refine blk_drew ?_ | refine blk_alloc ?_ _)); refine blk_put (cs := #[.int .i64 1, .int .i64 0]) ?_ 1 _ rfl; (with_reducible repeat (first | refine blk_drewN ?_ _ | refine blk_drew ?_ | refine blk_alloc ?_ _)); refine blk_put (cs := #[.int .i64 0, .int .i64 0]) ?_ 0 _ rfl; (with_reducible repeat (first | refine blk_drewN ?_ _ | refine blk_drew ?_ | refine blk_alloc ?_ _)); exact BK148.out) Try.underlying81 rfl (by kernel_rfl) (.cell gb149 81 #[.int .i64 0, .int .i64 0] (0, 0) _ rfl (by (with_reducible repeat (first | refine blk_drewN ?_ _ | refine blk_drew ?_ | refine blk_alloc ?_ _)); refine blk_far ?_ NB149_150.out _; (with_reducible repeat (first | refine blk_drewN ?_ _ | refine blk_drew ?_ | refine blk_alloc ?_ _)); refine blk_far ?_ NB149_150.out _; (with_reducible repeat (first | refine blk_drewN ?_ _ | refine blk_drew ?_ | refine blk_alloc ?_ _)); refine blk_put (cs := #[.int .i64 0, .int .i64 0]) ?_ 1 _ rfl; (with_reducible repeat (first | refine blk_drewN ?_ _ | refine blk_drew ?_ | refine blk_alloc ?_ _)); refine blk_put (cs := #[.int .i64 0, .int .i64 0]) ?_ 0 _ rfl; (with_reducible repeat (first | refine blk_drewN ?_ _ | refine blk_drew ?_ | refine blk_alloc ?_ _)); refine blk_far ?_ NB149_148.out _; (with_reducible repeat (first | refine blk_drewN ?_ _ | refine blk_drew ?_ | refine blk_alloc ?_ _)); refine blk_far ?_ NB149_148.out _; (with_reducible repeat (first | refine blk_drewN ?_ _ | refine blk_drew ?_ | refine blk_alloc ?_ _)); exact BK149.out) Try.underlying81 rfl (by kernel_rfl) (.cell gb150 81 #[.int .i64 0, .int .i64 0] (0, 0) _ rfl (by (with_reducible repeat (first | refine blk_drewN ?_ _ | refine blk_drew ?_ | refine blk_alloc ?_ _)); refine blk_put (cs := #[.int .i64 0, .int .i64 0]) ?_ 1 _ rfl; (with_reducible repeat (first | refine blk_drewN ?_ _ | refine blk_drew ?_ | refine blk_alloc ?_ _)); refine blk_put (cs := #[.int .i64 0, .int .i64 0]) ?_ 0 _ rfl; (with_reducible repeat (first | refine blk_drewN ?_ _ | refine blk_drew ?_ | refine blk_alloc ?_ _)); refine blk_far ?_ NB150_149.out _; (with_reducible repeat (first | refine blk_drewN ?_ _ | refine blk_drew ?_ | refine blk_alloc ?_ _)); refine blk_far ?_ NB150_149.out _; (with_reducible repeat (first | refine blk_drewN ?_ _ | refine blk_drew ?_ | refine blk_alloc ?_ _)); refine blk_far ?_ NB150_148.out _; (with_reducible repeat (first | refine blk_drewN ?_ _ | refine blk_drew ?_ | refine blk_alloc ?_ _)); refine blk_far ?_ NB150_148.out _; (with_reducible repeat (first | refine blk_drewN ?_ _ | refine blk_drew ?_ | refine blk_alloc ?_ _)); exact BK150.out) Try.underlying81 rfl (by kernel_rfl) .nil)))) rfl ?_
    exact ⟨by first | rfl | (simp [errW_none, errW_some] <;> rfl) | (simp [*, errW_none, errW_some] <;> rfl), bS HB.out⟩
   ·replace c18 := Bool.eq_false_iff.mpr c18
    subst c18
    have H1 : (if a0 = 3 then (impl_counts.j1 kj1 a0 (a0 == 3) 0 0 1 1) else (impl_counts.j1 kj1 a0 (a0 == 4) 0 0 1 1)) = some (r1, r2, r3, r4, r5, r6) := by rw [if_neg (show ¬ (false = true) by decide)] at H; exact H
    clear H
    have H := H1
    clear H1
    have HC26 := aM H
    clear H
    go_upto_if 16 with (fail)
    go_cut [16] (fun v16 wc => ∃ (kq : Nat) (x16_25 : Bool), v16 = .bool x16_25 ∧ Aside0 (impl_counts.j1 kq a0 x16_25 0 0 1 1 = some (r1, r2, r3, r4, r5, r6)) ∧ Aside0 (kq ≤ kj1) ∧ Aside0 (wc.heap[gb148]? = some (.cells #[.int .i64 0, .int .i64 0] 81 (0, 0))) ∧ Aside0 (wc.heap[gb149]? = some (.cells #[.int .i64 0, .int .i64 0] 81 (0, 0))) ∧ Aside0 (wc.heap[gb150]? = some (.cells #[.int .i64 0, .int .i64 0] 81 (0, 0))) ∧ Aside0 (wc.heap[gb151]? = some (.cells #[.int .i64 0, .int .i64 0] 81 (0, 0))) ∧ Aside0 (wc.heap[gb152]? = some (.cells #[.int .i64 1, .int .i64 1] 81 (0, 0))) ∧ Aside0 (Below w.heap.size w wc))
    case first =>
     have H := HC26.out
     clear HC26
     by_cases c27 : a0 = 3
     ·rw [if_pos c27] at H
      have c27b0 : (a0 == 3) = true := beq_iff_eq.mpr c27
      have c27b1 : (a0 != 3) = false := bne_eq_false_iff_eq.mpr c27
      clear c27
      (first | rw [c27b0] | (simp only [i64_w, i32_w]; rw [c27b0]) | skip)
      have H' := aM H
      clear H
      go_wp2
      go_meet
      case rel => exact ⟨_, ((a0 == 3)), (by first | rfl | (simp; done) | (simp [*]; done)), H', ⟨by have := HJ1.out; first | omega | exact Nat.le_refl _⟩, ⟨by (with_reducible repeat (first | refine blk_drewN ?_ _ | refine blk_drew ?_ | refine blk_alloc ?_ _)); exact BK148.out⟩, ⟨by (with_reducible repeat (first | refine blk_drewN ?_ _ | refine blk_drew ?_ | refine blk_alloc ?_ _)); exact BK149.out⟩, ⟨by (with_reducible repeat (first | refine blk_drewN ?_ _ | refine blk_drew ?_ | refine blk_alloc ?_ _)); exact BK150.out⟩, ⟨by (with_reducible repeat (first | refine blk_drewN ?_ _ | refine blk_drew ?_ | refine blk_alloc ?_ _)); exact BK151.out⟩, ⟨by (with_reducible repeat (first | refine blk_drewN ?_ _ | refine blk_drew ?_ | refine blk_alloc ?_ _)); exact BK152.out⟩, ⟨bS HB.out⟩⟩
     ·rw [if_neg c27] at H
      have c27b0 : (a0 == 3) = false := beq_eq_false_iff_ne.mpr c27
      have c27b1 : (a0 != 3) = true := bne_iff_ne.mpr c27
      (first | rw [c27b0] | (simp only [i64_w, i32_w]; rw [c27b0]) | skip)
      have H' := aM H
      clear H
      go_wp2
      go_meet
      case rel => exact ⟨_, ((a0 == 4)), (by first | rfl | (simp; done) | (simp [*]; done)), H', ⟨by have := HJ1.out; first | omega | exact Nat.le_refl _⟩, ⟨by (with_reducible repeat (first | refine blk_drewN ?_ _ | refine blk_drew ?_ | refine blk_alloc ?_ _)); exact BK148.out⟩, ⟨by (with_reducible repeat (first | refine blk_drewN ?_ _ | refine blk_drew ?_ | refine blk_alloc ?_ _)); exact BK149.out⟩, ⟨by (with_reducible repeat (first | refine blk_drewN ?_ _ | refine blk_drew ?_ | refine blk_alloc ?_ _)); exact BK150.out⟩, ⟨by (with_reducible repeat (first | refine blk_drewN ?_ _ | refine blk_drew ?_ | refine blk_alloc ?_ _)); exact BK151.out⟩, ⟨by (with_reducible repeat (first | refine blk_drewN ?_ _ | refine blk_drew ?_ | refine blk_alloc ?_ _)); exact BK152.out⟩, ⟨bS HB.out⟩⟩
    case rest =>
     clear HC26
     try clear c1
     try clear p2
     try clear c8
     try clear c9
     try clear c10
     try clear c11
     try clear c13
     try clear c14
     try clear c15
     try clear c17
     try clear c17b0
     try clear c17b1
     try clear c18
     try clear hcz12_0
     try clear hcz12_1
     try clear hcz16_0
     try clear hcz16_1
     try clear hfz12_0
     try clear hfz12_1
     try clear hfz16_0
     try clear hfz16_1
     try clear p2
     obtain ⟨kq, x16_25, rfl, HA, HJ25, BK148, BK149, BK150, BK151, BK152, HB⟩ := hcut
     cases kq with
     | zero => exact absurd HA.out (by simp [impl_counts.j1])
     | succ kj25 =>
      have H := HA.out
      clear HA
      simp only [impl_counts.j1] at H
      by_cases c28 : x16_25 = true
      ·subst c28
       have H1 : (some (1, 125, 0, 0, 0, 0)) = some (r1, r2, r3, r4, r5, r6) := by rw [if_pos rfl] at H; exact H
       clear H
       have H := H1
       clear H1
       simp only [Option.some.injEq, Prod.mk.injEq] at H
       obtain ⟨rfl, rfl, rfl, rfl, rfl, rfl⟩ := H
       try go_wp2
       have n0_ := aM (blk_drew BK148.out)
       have n1_ := aM (blk_drew BK149.out)
       have n2_ := aM (blk_drew BK150.out)
       have n3_ := aM (blk_drew BK151.out)
       have n4_ := aM (blk_drew BK152.out)
       have n5_ := aM (below_drew1 HB.out)
       clear BK148
       clear BK149
       clear BK150
       clear BK151
       clear BK152
       clear HB
       have BK148 := n0_
       have BK149 := n1_
       have BK150 := n2_
       have BK151 := n3_
       have BK152 := n4_
       have HB := n5_
       clear n0_ n1_ n2_ n3_ n4_ n5_
       refine start_ (n := 6) (S := fun w' => w'.cell? ⟨gb151, 0, none⟩ = some (.int .i64 0) ∧ w'.cell? ⟨gb151, 1, none⟩ = some (.int .i64 0)) (ds := []) #[false, false, false, false, false, false] (by kernel_rfl) rfl rfl ⟨(blk_cell BK151.out 0).trans rfl, (blk_cell BK151.out 1).trans rfl⟩ (fun hHeld => ?_)
       generalize wc.drew = w29 at BK148 BK149 BK150 BK151 BK152 HB hHeld ⊢
       refine pure_ (i := 0) (N := some 19) (v := ?_) (a' := ?_) #[true, false, false, false, false, false] rfl rfl (by kernel_rfl) (fun _ _ _ h => h) (Or.inl ⟨by rfl, ?_⟩) ?_ ?_
       rotate_left
       ·intro w'
        go_simp
        with_reducible rfl
       rotate_left
       ·simp only [Act.put, List.setIfInBounds_toArray, List.set_cons_zero, List.set_cons_succ, i64_w, i32_w]
        rfl
       refine take_ (i := 1) (N := some 20) (v := ?_) (a' := ?_) #[true, true, false, false, false, false] rfl rfl (by kernel_rfl) (fun _ _ _ h => h) (Or.inl ⟨by rfl, ?_⟩) hHeld ?_ ?_
       rotate_left
       ·rintro w' ⟨s0, s1⟩
        go_simp
        with_reducible rfl
       rotate_left
       ·simp only [Act.put, List.setIfInBounds_toArray, List.set_cons_zero, List.set_cons_succ, i64_w, i32_w]
        rfl
       refine take_ (i := 2) (N := some 21) (v := ?_) (a' := ?_) #[true, true, true, false, false, false] rfl rfl (by kernel_rfl) (fun _ _ _ h => h) (Or.inl ⟨by rfl, ?_⟩) hHeld ?_ ?_
       rotate_left
       ·rintro w' ⟨s0, s1⟩
        go_simp
        with_reducible rfl
       rotate_left
       ·simp only [Act.put, List.setIfInBounds_toArray, List.set_cons_zero, List.set_cons_succ, i64_w, i32_w]
        rfl
       refine one_ (i := 3) (N := none) #[true, true, true, true, false, false] rfl rfl (by kernel_rfl) (by decide) (fun K hK => ?_)
       have hs30 : w29.cell? ⟨gb148, 0, none⟩ = some (.int .i64 0) := (blk_cell BK148.out 0).trans rfl
       have hfs30 := blk_frozen BK148.out 0
       have hns30_1 := NB149_148.out
       have hns30_2 := NB150_148.out
       have hns30_3 := NB151_148.out
       have hns30_4 := NB152_148.out
       have hms30_1 := NB148_149.out
       have hms30_2 := NB148_150.out
       have hms30_3 := NB148_151.out
       have hms30_4 := NB148_152.out
       have hs31 : w29.cell? ⟨gb148, 1, none⟩ = some (.int .i64 0) := (blk_cell BK148.out 1).trans rfl
       have hfs31 := blk_frozen BK148.out 1
       have hns31_1 := NB149_148.out
       have hns31_2 := NB150_148.out
       have hns31_3 := NB151_148.out
       have hns31_4 := NB152_148.out
       have hms31_1 := NB148_149.out
       have hms31_2 := NB148_150.out
       have hms31_3 := NB148_151.out
       have hms31_4 := NB148_152.out
       refine skip_ (w1 := ?_) (by rfl) rfl ?_ ?_
       rotate_left
       ·go_simp
        rfl
       refine hK.out _ _ ⟨((cell_far (p := ⟨gb148, _, none⟩) NB151_148.out _).trans (((cell_far (p := ⟨gb148, _, none⟩) NB151_148.out _).trans (hHeld.1)))), ((cell_far (p := ⟨gb148, _, none⟩) NB151_148.out _).trans (((cell_far (p := ⟨gb148, _, none⟩) NB151_148.out _).trans (hHeld.2))))⟩ (fun hHeld => ?_)
       clear hK K
       refine one_ (i := 4) (N := none) #[true, true, true, true, true, false] rfl rfl (by kernel_rfl) (by decide) (fun K hK => ?_)
       have hs32 : w29.cell? ⟨gb149, 0, none⟩ = some (.int .i64 0) := (blk_cell BK149.out 0).trans rfl
       have hfs32 := blk_frozen BK149.out 0
       have hns32_0 := NB148_149.out
       have hns32_2 := NB150_149.out
       have hns32_3 := NB151_149.out
       have hns32_4 := NB152_149.out
       have hms32_0 := NB149_148.out
       have hms32_2 := NB149_150.out
       have hms32_3 := NB149_151.out
       have hms32_4 := NB149_152.out
       have hs33 : w29.cell? ⟨gb149, 1, none⟩ = some (.int .i64 0) := (blk_cell BK149.out 1).trans rfl
       have hfs33 := blk_frozen BK149.out 1
       have hns33_0 := NB148_149.out
       have hns33_2 := NB150_149.out
       have hns33_3 := NB151_149.out
       have hns33_4 := NB152_149.out
       have hms33_0 := NB149_148.out
       have hms33_2 := NB149_150.out
       have hms33_3 := NB149_151.out
       have hms33_4 := NB149_152.out
       refine skip_ (w1 := ?_) (by rfl) rfl ?_ ?_
       rotate_left
       ·go_simp
        rfl
       refine hK.out _ _ ⟨((cell_far (p := ⟨gb149, _, none⟩) NB151_149.out _).trans (((cell_far (p := ⟨gb149, _, none⟩) NB151_149.out _).trans (hHeld.1)))), ((cell_far (p := ⟨gb149, _, none⟩) NB151_149.out _).trans (((cell_far (p := ⟨gb149, _, none⟩) NB151_149.out _).trans (hHeld.2))))⟩ (fun hHeld => ?_)
       clear hK K
       refine one_ (i := 5) (N := none) #[true, true, true, true, true, true] rfl rfl (by kernel_rfl) (by decide) (fun K hK => ?_)
       have hs34 : w29.cell? ⟨gb150, 0, none⟩ = some (.int .i64 0) := (blk_cell BK150.out 0).trans rfl
       have hfs34 := blk_frozen BK150.out 0
       have hns34_0 := NB148_150.out
       have hns34_1 := NB149_150.out
       have hns34_3 := NB151_150.out
       have hns34_4 := NB152_150.out
       have hms34_0 := NB150_148.out
       have hms34_1 := NB150_149.out
       have hms34_3 := NB150_151.out
       have hms34_4 := NB150_152.out
       have hs35 : w29.cell? ⟨gb150, 1, none⟩ = some (.int .i64 0) := (blk_cell BK150.out 1).trans rfl
       have hfs35 := blk_frozen BK150.out 1
       have hns35_0 := NB148_150.out
       have hns35_1 := NB149_150.out
       have hns35_3 := NB151_150.out
       have hns35_4 := NB152_150.out
       have hms35_0 := NB150_148.out
       have hms35_1 := NB150_149.out
       have hms35_3 := NB150_151.out
       have hms35_4 := NB150_152.out
       refine skip_ (w1 := ?_) (by rfl) rfl ?_ ?_
       rotate_left
       ·go_simp
        rfl
       refine hK.out _ _ ⟨((cell_far (p := ⟨gb150, _, none⟩) NB151_150.out _).trans (((cell_far (p := ⟨gb150, _, none⟩) NB151_150.out _).trans (hHeld.1)))), ((cell_far (p := ⟨gb150, _, none⟩) NB151_150.out _).trans (((cell_far (p := ⟨gb150, _, none⟩) NB151_150.out _).trans (hHeld.2))))⟩ (fun hHeld => ?_)
       clear hK K
       refine done_ (by kernel_rfl) ?_
       try go_wp2
       refine bodyPost_ret (results_list (rs := [.cell 2 81, .cell 3 81, .cell 4 81]) rfl (by simp) (.cell gb148 81 #[.int .i64 1, .int .i64 125] (0, 0) _ rfl (by (with_reducible repeat (first | refine blk_drewN ?_ _ | refine blk_drew ?_ | refine blk_alloc ?_ _)); refine blk_far ?_ NB148_150.out _; (with_reducible repeat (first | refine blk_drewN ?_ _ | refine blk_drew ?_ | refine blk_alloc ?_ _)); refine blk_far ?_ NB148_150.out _; (with_reducible repeat (first | refine blk_drewN ?_ _ | refine blk_drew ?_ | refine blk_alloc ?_ _)); refine blk_far ?_ NB148_149.out _; (with_reducible repeat (first | refine blk_drewN ?_ _ | refine blk_drew ?_ | refine blk_alloc ?_ _)); refine blk_far ?_ NB148_149.out _; (with_reducible repeat (first | refine blk_drewN ?_ _ | refine blk_drew ?_ | refine blk_alloc ?_ _)); refine blk_put (cs := #[.int .i64 1, .int .i64 0]) ?_ 1 _ rfl; (with_reducible repeat (first | refine blk_drewN ?_ _ | refine blk_drew ?_ | refine blk_alloc ?_ _)); refine blk_put (cs := #[.int .i64 0, .int .i64 0]) ?_ 0 _ rfl; (with_reducible repeat (first | refine blk_drewN ?_ _ | refine blk_drew ?_ | refine blk_alloc ?_ _)); exact BK148.out) Try.underlying81 rfl (by kernel_rfl) (.cell gb149 81 #[.int .i64 0, .int .i64 0] (0, 0) _ rfl (by (with_reducible repeat (first | refine blk_drewN ?_ _ | refine blk_drew ?_ | refine blk_alloc ?_ _)); refine blk_far ?_ NB149_150.out _; (with_reducible repeat (first | refine blk_drewN ?_ _ | refine blk_drew ?_ | refine blk_alloc ?_ _)); refine blk_far ?_ NB149_150.out _; (with_reducible repeat (first | refine blk_drewN ?_ _ | refine blk_drew ?_ | refine blk_alloc ?_ _)); refine blk_put (cs := #[.int .i64 0, .int .i64 0]) ?_ 1 _ rfl; (with_reducible repeat (first | refine blk_drewN ?_ _ | refine blk_drew ?_ | refine blk_alloc ?_ _)); refine blk_put (cs := #[.int .i64 0, .int .i64 0]) ?_ 0 _ rfl; (with_reducible repeat (first | refine blk_drewN ?_ _ | refine blk_drew ?_ | refine blk_alloc ?_ _)); refine blk_far ?_ NB149_148.out _; (with_reducible repeat (first | refine blk_drewN ?_ _ | refine blk_drew ?_ | refine blk_alloc ?_ _)); refine blk_far ?_ NB149_148.out _; (with_reducible repeat (first | refine blk_drewN ?_ _ | refine blk_drew ?_ | refine blk_alloc ?_ _)); exact BK149.out) Try.underlying81 rfl (by kernel_rfl) (.cell gb150 81 #[.int .i64 0, .int .i64 0] (0, 0) _ rfl (by (with_reducible repeat (first | refine blk_drewN ?_ _ | refine blk_drew ?_ | refine blk_alloc ?_ _)); refine blk_put (cs := #[.int .i64 0, .int .i64 0]) ?_ 1 _ rfl; (with_reducible repeat (first | refine blk_drewN ?_ _ | refine blk_drew ?_ | refine blk_alloc ?_ _)); refine blk_put (cs := #[.int .i64 0, .int .i64 0]) ?_ 0 _ rfl; (with_reducible repeat (first | refine blk_drewN ?_ _ | refine blk_drew ?_ | refine blk_alloc ?_ _)); refine blk_far ?_ NB150_149.out _; (with_reducible repeat (first | refine blk_drewN ?_ _ | refine blk_drew ?_ | refine blk_alloc ?_ _)); refine blk_far ?_ NB150_149.out _; (with_reducible repeat (first | refine blk_drewN ?_ _ | refine blk_drew ?_ | refine blk_alloc ?_ _)); refine blk_far ?_ NB150_148.out _; (with_reducible repeat (first | refine blk_drewN ?_ _ | refine blk_drew ?_ | refine blk_alloc ?_ _)); refine blk_far ?_ NB150_148.out _; (with_reducible repeat (first | refine blk_drewN ?_ _ | refine blk_drew ?_ | refine blk_alloc ?_ _)); exact BK150.out) Try.underlying81 rfl (by kernel_rfl) .nil)))) rfl ?_
       exact ⟨by first | rfl | (simp [errW_none, errW_some] <;> rfl) | (simp [*, errW_none, errW_some] <;> rfl), bS HB.out⟩
      ·replace c28 := Bool.eq_false_iff.mpr c28
       subst c28
       have H1 : (if a0 = 5 then (some (0, 0, 0, 0, 1, 1)) else (if a0 = 6 then (some (0, 0, 1, 1, 0, 0)) else (if a0 = 15 then (some (0, 0, 0, 0, 1, 1968)) else (if a0 = 16 then (some (0, 0, 1, 123, 0, 0)) else (if a0 = 22 then (some (0, 0, 2, 2, 0, 0)) else (some (1, 125, 1, 121, 0, 0))))))) = some (r1, r2, r3, r4, r5, r6) := by rw [if_neg (show ¬ (false = true) by decide)] at H; exact H
       clear H
       have H := H1
       clear H1
       by_cases c36 : a0 = 5
       ·rw [if_pos c36] at H
        have c36b0 : (a0 == 5) = true := beq_iff_eq.mpr c36
        have c36b1 : (a0 != 5) = false := bne_eq_false_iff_eq.mpr c36
        clear c36
        simp only [Option.some.injEq, Prod.mk.injEq] at H
        obtain ⟨rfl, rfl, rfl, rfl, rfl, rfl⟩ := H
        try go_wp2
        have n0_ := aM (blk_drew BK148.out)
        have n1_ := aM (blk_drew BK149.out)
        have n2_ := aM (blk_drew BK150.out)
        have n3_ := aM (blk_drew BK151.out)
        have n4_ := aM (blk_drew BK152.out)
        have n5_ := aM (below_drew1 HB.out)
        clear BK148
        clear BK149
        clear BK150
        clear BK151
        clear BK152
        clear HB
        have BK148 := n0_
        have BK149 := n1_
        have BK150 := n2_
        have BK151 := n3_
        have BK152 := n4_
        have HB := n5_
        clear n0_ n1_ n2_ n3_ n4_ n5_
        refine start_ (n := 6) (S := fun w' => w'.cell? ⟨gb151, 0, none⟩ = some (.int .i64 0) ∧ w'.cell? ⟨gb151, 1, none⟩ = some (.int .i64 0) ∧ w'.cell? ⟨gb152, 0, none⟩ = some (.int .i64 1) ∧ w'.cell? ⟨gb152, 1, none⟩ = some (.int .i64 1)) (ds := []) #[false, false, false, false, false, false] (by kernel_rfl) rfl rfl ⟨(blk_cell BK151.out 0).trans rfl, (blk_cell BK151.out 1).trans rfl, (blk_cell BK152.out 0).trans rfl, (blk_cell BK152.out 1).trans rfl⟩ (fun hHeld => ?_)
        generalize wc.drew = w37 at BK148 BK149 BK150 BK151 BK152 HB hHeld ⊢
        refine take_ (i := 0) (N := some 24) (v := ?_) (a' := ?_) #[true, false, false, false, false, false] rfl rfl (by kernel_rfl) (fun _ _ _ h => h) (Or.inl ⟨by rfl, ?_⟩) hHeld ?_ ?_
        rotate_left
        ·rintro w' ⟨s0, s1, s2, s3⟩
         go_simp
         with_reducible rfl
        rotate_left
        ·simp only [Act.put, List.setIfInBounds_toArray, List.set_cons_zero, List.set_cons_succ, i64_w, i32_w]
         rfl
        refine take_ (i := 1) (N := some 25) (v := ?_) (a' := ?_) #[true, true, false, false, false, false] rfl rfl (by kernel_rfl) (fun _ _ _ h => h) (Or.inl ⟨by rfl, ?_⟩) hHeld ?_ ?_
        rotate_left
        ·rintro w' ⟨s0, s1, s2, s3⟩
         go_simp
         with_reducible rfl
        rotate_left
        ·simp only [Act.put, List.setIfInBounds_toArray, List.set_cons_zero, List.set_cons_succ, i64_w, i32_w]
         rfl
        refine take_ (i := 2) (N := some 26) (v := ?_) (a' := ?_) #[true, true, true, false, false, false] rfl rfl (by kernel_rfl) (fun _ _ _ h => h) (Or.inl ⟨by rfl, ?_⟩) hHeld ?_ ?_
        rotate_left
        ·rintro w' ⟨s0, s1, s2, s3⟩
         go_simp
         with_reducible rfl
        rotate_left
        ·simp only [Act.put, List.setIfInBounds_toArray, List.set_cons_zero, List.set_cons_succ, i64_w, i32_w]
         rfl
        refine one_ (i := 3) (N := none) #[true, true, true, true, false, false] rfl rfl (by kernel_rfl) (by decide) (fun K hK => ?_)
        have hs38 : w37.cell? ⟨gb148, 0, none⟩ = some (.int .i64 0) := (blk_cell BK148.out 0).trans rfl
        have hfs38 := blk_frozen BK148.out 0
        have hns38_1 := NB149_148.out
        have hns38_2 := NB150_148.out
        have hns38_3 := NB151_148.out
        have hns38_4 := NB152_148.out
        have hms38_1 := NB148_149.out
        have hms38_2 := NB148_150.out
        have hms38_3 := NB148_151.out
        have hms38_4 := NB148_152.out
        have hs39 : w37.cell? ⟨gb148, 1, none⟩ = some (.int .i64 0) := (blk_cell BK148.out 1).trans rfl
        have hfs39 := blk_frozen BK148.out 1
        have hns39_1 := NB149_148.out
        have hns39_2 := NB150_148.out
        have hns39_3 := NB151_148.out
        have hns39_4 := NB152_148.out
        have hms39_1 := NB148_149.out
        have hms39_2 := NB148_150.out
        have hms39_3 := NB148_151.out
        have hms39_4 := NB148_152.out
        refine skip_ (w1 := ?_) (by rfl) rfl ?_ ?_
        rotate_left
        ·go_simp
         rfl
        refine hK.out _ _ ⟨((cell_far (p := ⟨gb148, _, none⟩) NB151_148.out _).trans (((cell_far (p := ⟨gb148, _, none⟩) NB151_148.out _).trans (hHeld.1)))), ((cell_far (p := ⟨gb148, _, none⟩) NB151_148.out _).trans (((cell_far (p := ⟨gb148, _, none⟩) NB151_148.out _).trans (hHeld.2.1)))), ((cell_far (p := ⟨gb148, _, none⟩) NB152_148.out _).trans (((cell_far (p := ⟨gb148, _, none⟩) NB152_148.out _).trans (hHeld.2.2.1)))), ((cell_far (p := ⟨gb148, _, none⟩) NB152_148.out _).trans (((cell_far (p := ⟨gb148, _, none⟩) NB152_148.out _).trans (hHeld.2.2.2))))⟩ (fun hHeld => ?_)
        clear hK K
        refine one_ (i := 4) (N := none) #[true, true, true, true, true, false] rfl rfl (by kernel_rfl) (by decide) (fun K hK => ?_)
        have hs40 : w37.cell? ⟨gb149, 0, none⟩ = some (.int .i64 0) := (blk_cell BK149.out 0).trans rfl
        have hfs40 := blk_frozen BK149.out 0
        have hns40_0 := NB148_149.out
        have hns40_2 := NB150_149.out
        have hns40_3 := NB151_149.out
        have hns40_4 := NB152_149.out
        have hms40_0 := NB149_148.out
        have hms40_2 := NB149_150.out
        have hms40_3 := NB149_151.out
        have hms40_4 := NB149_152.out
        have hs41 : w37.cell? ⟨gb149, 1, none⟩ = some (.int .i64 0) := (blk_cell BK149.out 1).trans rfl
        have hfs41 := blk_frozen BK149.out 1
        have hns41_0 := NB148_149.out
        have hns41_2 := NB150_149.out
        have hns41_3 := NB151_149.out
        have hns41_4 := NB152_149.out
        have hms41_0 := NB149_148.out
        have hms41_2 := NB149_150.out
        have hms41_3 := NB149_151.out
        have hms41_4 := NB149_152.out
        refine skip_ (w1 := ?_) (by rfl) rfl ?_ ?_
        rotate_left
        ·go_simp
         rfl
        refine hK.out _ _ ⟨((cell_far (p := ⟨gb149, _, none⟩) NB151_149.out _).trans (((cell_far (p := ⟨gb149, _, none⟩) NB151_149.out _).trans (hHeld.1)))), ((cell_far (p := ⟨gb149, _, none⟩) NB151_149.out _).trans (((cell_far (p := ⟨gb149, _, none⟩) NB151_149.out _).trans (hHeld.2.1)))), ((cell_far (p := ⟨gb149, _, none⟩) NB152_149.out _).trans (((cell_far (p := ⟨gb149, _, none⟩) NB152_149.out _).trans (hHeld.2.2.1)))), ((cell_far (p := ⟨gb149, _, none⟩) NB152_149.out _).trans (((cell_far (p := ⟨gb149, _, none⟩) NB152_149.out _).trans (hHeld.2.2.2))))⟩ (fun hHeld => ?_)
        clear hK K
        refine one_ (i := 5) (N := none) #[true, true, true, true, true, true] rfl rfl (by kernel_rfl) (by decide) (fun K hK => ?_)
        have hs42 : w37.cell? ⟨gb150, 0, none⟩ = some (.int .i64 0) := (blk_cell BK150.out 0).trans rfl
        have hfs42 := blk_frozen BK150.out 0
        have hns42_0 := NB148_150.out
        have hns42_1 := NB149_150.out
        have hns42_3 := NB151_150.out
        have hns42_4 := NB152_150.out
        have hms42_0 := NB150_148.out
        have hms42_1 := NB150_149.out
        have hms42_3 := NB150_151.out
        have hms42_4 := NB150_152.out
        have hs43 : w37.cell? ⟨gb150, 1, none⟩ = some (.int .i64 0) := (blk_cell BK150.out 1).trans rfl
        have hfs43 := blk_frozen BK150.out 1
        have hns43_0 := NB148_150.out
        have hns43_1 := NB149_150.out
        have hns43_3 := NB151_150.out
        have hns43_4 := NB152_150.out
        have hms43_0 := NB150_148.out
        have hms43_1 := NB150_149.out
        have hms43_3 := NB150_151.out
        have hms43_4 := NB150_152.out
        refine skip_ (w1 := ?_) (by rfl) rfl ?_ ?_
        rotate_left
        ·go_simp
         rfl
        refine hK.out _ _ ⟨((cell_far (p := ⟨gb150, _, none⟩) NB151_150.out _).trans (((cell_far (p := ⟨gb150, _, none⟩) NB151_150.out _).trans (hHeld.1)))), ((cell_far (p := ⟨gb150, _, none⟩) NB151_150.out _).trans (((cell_far (p := ⟨gb150, _, none⟩) NB151_150.out _).trans (hHeld.2.1)))), ((cell_far (p := ⟨gb150, _, none⟩) NB152_150.out _).trans (((cell_far (p := ⟨gb150, _, none⟩) NB152_150.out _).trans (hHeld.2.2.1)))), ((cell_far (p := ⟨gb150, _, none⟩) NB152_150.out _).trans (((cell_far (p := ⟨gb150, _, none⟩) NB152_150.out _).trans (hHeld.2.2.2))))⟩ (fun hHeld => ?_)
        clear hK K
        refine done_ (by kernel_rfl) ?_
        try go_wp2
        refine bodyPost_ret (results_list (rs := [.cell 2 81, .cell 3 81, .cell 4 81]) rfl (by simp) (.cell gb148 81 #[.int .i64 0, .int .i64 0] (0, 0) _ rfl (by (with_reducible repeat (first | refine blk_drewN ?_ _ | refine blk_drew ?_ | refine blk_alloc ?_ _)); refine blk_far ?_ NB148_150.out _; (with_reducible repeat (first | refine blk_drewN ?_ _ | refine blk_drew ?_ | refine blk_alloc ?_ _)); refine blk_far ?_ NB148_150.out _; (with_reducible repeat (first | refine blk_drewN ?_ _ | refine blk_drew ?_ | refine blk_alloc ?_ _)); refine blk_far ?_ NB148_149.out _; (with_reducible repeat (first | refine blk_drewN ?_ _ | refine blk_drew ?_ | refine blk_alloc ?_ _)); refine blk_far ?_ NB148_149.out _; (with_reducible repeat (first | refine blk_drewN ?_ _ | refine blk_drew ?_ | refine blk_alloc ?_ _)); refine blk_put (cs := #[.int .i64 0, .int .i64 0]) ?_ 1 _ rfl; (with_reducible repeat (first | refine blk_drewN ?_ _ | refine blk_drew ?_ | refine blk_alloc ?_ _)); refine blk_put (cs := #[.int .i64 0, .int .i64 0]) ?_ 0 _ rfl; (with_reducible repeat (first | refine blk_drewN ?_ _ | refine blk_drew ?_ | refine blk_alloc ?_ _)); exact BK148.out) Try.underlying81 rfl (by kernel_rfl) (.cell gb149 81 #[.int .i64 0, .int .i64 0] (0, 0) _ rfl (by (with_reducible repeat (first | refine blk_drewN ?_ _ | refine blk_drew ?_ | refine blk_alloc ?_ _)); refine blk_far ?_ NB149_150.out _; (with_reducible repeat (first | refine blk_drewN ?_ _ | refine blk_drew ?_ | refine blk_alloc ?_ _)); refine blk_far ?_ NB149_150.out _; (with_reducible repeat (first | refine blk_drewN ?_ _ | refine blk_drew ?_ | refine blk_alloc ?_ _)); refine blk_put (cs := #[.int .i64 0, .int .i64 0]) ?_ 1 _ rfl; (with_reducible repeat (first | refine blk_drewN ?_ _ | refine blk_drew ?_ | refine blk_alloc ?_ _)); refine blk_put (cs := #[.int .i64 0, .int .i64 0]) ?_ 0 _ rfl; (with_reducible repeat (first | refine blk_drewN ?_ _ | refine blk_drew ?_ | refine blk_alloc ?_ _)); refine blk_far ?_ NB149_148.out _; (with_reducible repeat (first | refine blk_drewN ?_ _ | refine blk_drew ?_ | refine blk_alloc ?_ _)); refine blk_far ?_ NB149_148.out _; (with_reducible repeat (first | refine blk_drewN ?_ _ | refine blk_drew ?_ | refine blk_alloc ?_ _)); exact BK149.out) Try.underlying81 rfl (by kernel_rfl) (.cell gb150 81 #[.int .i64 1, .int .i64 1] (0, 0) _ rfl (by (with_reducible repeat (first | refine blk_drewN ?_ _ | refine blk_drew ?_ | refine blk_alloc ?_ _)); refine blk_put (cs := #[.int .i64 1, .int .i64 0]) ?_ 1 _ rfl; (with_reducible repeat (first | refine blk_drewN ?_ _ | refine blk_drew ?_ | refine blk_alloc ?_ _)); refine blk_put (cs := #[.int .i64 0, .int .i64 0]) ?_ 0 _ rfl; (with_reducible repeat (first | refine blk_drewN ?_ _ | refine blk_drew ?_ | refine blk_alloc ?_ _)); refine blk_far ?_ NB150_149.out _; (with_reducible repeat (first | refine blk_drewN ?_ _ | refine blk_drew ?_ | refine blk_alloc ?_ _)); refine blk_far ?_ NB150_149.out _; (with_reducible repeat (first | refine blk_drewN ?_ _ | refine blk_drew ?_ | refine blk_alloc ?_ _)); refine blk_far ?_ NB150_148.out _; (with_reducible repeat (first | refine blk_drewN ?_ _ | refine blk_drew ?_ | refine blk_alloc ?_ _)); refine blk_far ?_ NB150_148.out _; (with_reducible repeat (first | refine blk_drewN ?_ _ | refine blk_drew ?_ | refine blk_alloc ?_ _)); exact BK150.out) Try.underlying81 rfl (by kernel_rfl) .nil)))) rfl ?_
        exact ⟨by first | rfl | (simp [errW_none, errW_some] <;> rfl) | (simp [*, errW_none, errW_some] <;> rfl), bS HB.out⟩
       ·rw [if_neg c36] at H
        have c36b0 : (a0 == 5) = false := beq_eq_false_iff_ne.mpr c36
        have c36b1 : (a0 != 5) = true := bne_iff_ne.mpr c36
        by_cases c44 : a0 = 6
        ·rw [if_pos c44] at H
         have c44b0 : (a0 == 6) = true := beq_iff_eq.mpr c44
         have c44b1 : (a0 != 6) = false := bne_eq_false_iff_eq.mpr c44
         clear c44
         simp only [Option.some.injEq, Prod.mk.injEq] at H
         obtain ⟨rfl, rfl, rfl, rfl, rfl, rfl⟩ := H
         try go_wp2
         have n0_ := aM (blk_drew BK148.out)
         have n1_ := aM (blk_drew BK149.out)
         have n2_ := aM (blk_drew BK150.out)
         have n3_ := aM (blk_drew BK151.out)
         have n4_ := aM (blk_drew BK152.out)
         have n5_ := aM (below_drew1 HB.out)
         clear BK148
         clear BK149
         clear BK150
         clear BK151
         clear BK152
         clear HB
         have BK148 := n0_
         have BK149 := n1_
         have BK150 := n2_
         have BK151 := n3_
         have BK152 := n4_
         have HB := n5_
         clear n0_ n1_ n2_ n3_ n4_ n5_
         refine start_ (n := 6) (S := fun w' => w'.cell? ⟨gb151, 0, none⟩ = some (.int .i64 0) ∧ w'.cell? ⟨gb151, 1, none⟩ = some (.int .i64 0) ∧ w'.cell? ⟨gb152, 0, none⟩ = some (.int .i64 1) ∧ w'.cell? ⟨gb152, 1, none⟩ = some (.int .i64 1)) (ds := []) #[false, false, false, false, false, false] (by kernel_rfl) rfl rfl ⟨(blk_cell BK151.out 0).trans rfl, (blk_cell BK151.out 1).trans rfl, (blk_cell BK152.out 0).trans rfl, (blk_cell BK152.out 1).trans rfl⟩ (fun hHeld => ?_)
         generalize wc.drew = w45 at BK148 BK149 BK150 BK151 BK152 HB hHeld ⊢
         refine take_ (i := 0) (N := some 29) (v := ?_) (a' := ?_) #[true, false, false, false, false, false] rfl rfl (by kernel_rfl) (fun _ _ _ h => h) (Or.inl ⟨by rfl, ?_⟩) hHeld ?_ ?_
         rotate_left
         ·rintro w' ⟨s0, s1, s2, s3⟩
          go_simp
          with_reducible rfl
         rotate_left
         ·simp only [Act.put, List.setIfInBounds_toArray, List.set_cons_zero, List.set_cons_succ, i64_w, i32_w]
          rfl
         refine take_ (i := 1) (N := some 30) (v := ?_) (a' := ?_) #[true, true, false, false, false, false] rfl rfl (by kernel_rfl) (fun _ _ _ h => h) (Or.inl ⟨by rfl, ?_⟩) hHeld ?_ ?_
         rotate_left
         ·rintro w' ⟨s0, s1, s2, s3⟩
          go_simp
          with_reducible rfl
         rotate_left
         ·simp only [Act.put, List.setIfInBounds_toArray, List.set_cons_zero, List.set_cons_succ, i64_w, i32_w]
          rfl
         refine take_ (i := 2) (N := some 31) (v := ?_) (a' := ?_) #[true, true, true, false, false, false] rfl rfl (by kernel_rfl) (fun _ _ _ h => h) (Or.inl ⟨by rfl, ?_⟩) hHeld ?_ ?_
         rotate_left
         ·rintro w' ⟨s0, s1, s2, s3⟩
          go_simp
          with_reducible rfl
         rotate_left
         ·simp only [Act.put, List.setIfInBounds_toArray, List.set_cons_zero, List.set_cons_succ, i64_w, i32_w]
          rfl
         refine one_ (i := 3) (N := none) #[true, true, true, true, false, false] rfl rfl (by kernel_rfl) (by decide) (fun K hK => ?_)
         have hs46 : w45.cell? ⟨gb148, 0, none⟩ = some (.int .i64 0) := (blk_cell BK148.out 0).trans rfl
         have hfs46 := blk_frozen BK148.out 0
         have hns46_1 := NB149_148.out
         have hns46_2 := NB150_148.out
         have hns46_3 := NB151_148.out
         have hns46_4 := NB152_148.out
         have hms46_1 := NB148_149.out
         have hms46_2 := NB148_150.out
         have hms46_3 := NB148_151.out
         have hms46_4 := NB148_152.out
         have hs47 : w45.cell? ⟨gb148, 1, none⟩ = some (.int .i64 0) := (blk_cell BK148.out 1).trans rfl
         have hfs47 := blk_frozen BK148.out 1
         have hns47_1 := NB149_148.out
         have hns47_2 := NB150_148.out
         have hns47_3 := NB151_148.out
         have hns47_4 := NB152_148.out
         have hms47_1 := NB148_149.out
         have hms47_2 := NB148_150.out
         have hms47_3 := NB148_151.out
         have hms47_4 := NB148_152.out
         refine skip_ (w1 := ?_) (by rfl) rfl ?_ ?_
         rotate_left
         ·go_simp
          rfl
         refine hK.out _ _ ⟨((cell_far (p := ⟨gb148, _, none⟩) NB151_148.out _).trans (((cell_far (p := ⟨gb148, _, none⟩) NB151_148.out _).trans (hHeld.1)))), ((cell_far (p := ⟨gb148, _, none⟩) NB151_148.out _).trans (((cell_far (p := ⟨gb148, _, none⟩) NB151_148.out _).trans (hHeld.2.1)))), ((cell_far (p := ⟨gb148, _, none⟩) NB152_148.out _).trans (((cell_far (p := ⟨gb148, _, none⟩) NB152_148.out _).trans (hHeld.2.2.1)))), ((cell_far (p := ⟨gb148, _, none⟩) NB152_148.out _).trans (((cell_far (p := ⟨gb148, _, none⟩) NB152_148.out _).trans (hHeld.2.2.2))))⟩ (fun hHeld => ?_)
         clear hK K
         refine one_ (i := 4) (N := none) #[true, true, true, true, true, false] rfl rfl (by kernel_rfl) (by decide) (fun K hK => ?_)
         have hs48 : w45.cell? ⟨gb149, 0, none⟩ = some (.int .i64 0) := (blk_cell BK149.out 0).trans rfl
         have hfs48 := blk_frozen BK149.out 0
         have hns48_0 := NB148_149.out
         have hns48_2 := NB150_149.out
         have hns48_3 := NB151_149.out
         have hns48_4 := NB152_149.out
         have hms48_0 := NB149_148.out
         have hms48_2 := NB149_150.out
         have hms48_3 := NB149_151.out
         have hms48_4 := NB149_152.out
         have hs49 : w45.cell? ⟨gb149, 1, none⟩ = some (.int .i64 0) := (blk_cell BK149.out 1).trans rfl
         have hfs49 := blk_frozen BK149.out 1
         have hns49_0 := NB148_149.out
         have hns49_2 := NB150_149.out
         have hns49_3 := NB151_149.out
         have hns49_4 := NB152_149.out
         have hms49_0 := NB149_148.out
         have hms49_2 := NB149_150.out
         have hms49_3 := NB149_151.out
         have hms49_4 := NB149_152.out
         refine skip_ (w1 := ?_) (by rfl) rfl ?_ ?_
         rotate_left
         ·go_simp
          rfl
         refine hK.out _ _ ⟨((cell_far (p := ⟨gb149, _, none⟩) NB151_149.out _).trans (((cell_far (p := ⟨gb149, _, none⟩) NB151_149.out _).trans (hHeld.1)))), ((cell_far (p := ⟨gb149, _, none⟩) NB151_149.out _).trans (((cell_far (p := ⟨gb149, _, none⟩) NB151_149.out _).trans (hHeld.2.1)))), ((cell_far (p := ⟨gb149, _, none⟩) NB152_149.out _).trans (((cell_far (p := ⟨gb149, _, none⟩) NB152_149.out _).trans (hHeld.2.2.1)))), ((cell_far (p := ⟨gb149, _, none⟩) NB152_149.out _).trans (((cell_far (p := ⟨gb149, _, none⟩) NB152_149.out _).trans (hHeld.2.2.2))))⟩ (fun hHeld => ?_)
         clear hK K
         refine one_ (i := 5) (N := none) #[true, true, true, true, true, true] rfl rfl (by kernel_rfl) (by decide) (fun K hK => ?_)
         have hs50 : w45.cell? ⟨gb150, 0, none⟩ = some (.int .i64 0) := (blk_cell BK150.out 0).trans rfl
         have hfs50 := blk_frozen BK150.out 0
         have hns50_0 := NB148_150.out
         have hns50_1 := NB149_150.out
         have hns50_3 := NB151_150.out
         have hns50_4 := NB152_150.out
         have hms50_0 := NB150_148.out
         have hms50_1 := NB150_149.out
         have hms50_3 := NB150_151.out
         have hms50_4 := NB150_152.out
         have hs51 : w45.cell? ⟨gb150, 1, none⟩ = some (.int .i64 0) := (blk_cell BK150.out 1).trans rfl
         have hfs51 := blk_frozen BK150.out 1
         have hns51_0 := NB148_150.out
         have hns51_1 := NB149_150.out
         have hns51_3 := NB151_150.out
         have hns51_4 := NB152_150.out
         have hms51_0 := NB150_148.out
         have hms51_1 := NB150_149.out
         have hms51_3 := NB150_151.out
         have hms51_4 := NB150_152.out
         refine skip_ (w1 := ?_) (by rfl) rfl ?_ ?_
         rotate_left
         ·go_simp
          rfl
         refine hK.out _ _ ⟨((cell_far (p := ⟨gb150, _, none⟩) NB151_150.out _).trans (((cell_far (p := ⟨gb150, _, none⟩) NB151_150.out _).trans (hHeld.1)))), ((cell_far (p := ⟨gb150, _, none⟩) NB151_150.out _).trans (((cell_far (p := ⟨gb150, _, none⟩) NB151_150.out _).trans (hHeld.2.1)))), ((cell_far (p := ⟨gb150, _, none⟩) NB152_150.out _).trans (((cell_far (p := ⟨gb150, _, none⟩) NB152_150.out _).trans (hHeld.2.2.1)))), ((cell_far (p := ⟨gb150, _, none⟩) NB152_150.out _).trans (((cell_far (p := ⟨gb150, _, none⟩) NB152_150.out _).trans (hHeld.2.2.2))))⟩ (fun hHeld => ?_)
         clear hK K
         refine done_ (by kernel_rfl) ?_
         try go_wp2
         refine bodyPost_ret (results_list (rs := [.cell 2 81, .cell 3 81, .cell 4 81]) rfl (by simp) (.cell gb148 81 #[.int .i64 0, .int .i64 0] (0, 0) _ rfl (by (with_reducible repeat (first | refine blk_drewN ?_ _ | refine blk_drew ?_ | refine blk_alloc ?_ _)); refine blk_far ?_ NB148_150.out _; (with_reducible repeat (first | refine blk_drewN ?_ _ | refine blk_drew ?_ | refine blk_alloc ?_ _)); refine blk_far ?_ NB148_150.out _; (with_reducible repeat (first | refine blk_drewN ?_ _ | refine blk_drew ?_ | refine blk_alloc ?_ _)); refine blk_far ?_ NB148_149.out _; (with_reducible repeat (first | refine blk_drewN ?_ _ | refine blk_drew ?_ | refine blk_alloc ?_ _)); refine blk_far ?_ NB148_149.out _; (with_reducible repeat (first | refine blk_drewN ?_ _ | refine blk_drew ?_ | refine blk_alloc ?_ _)); refine blk_put (cs := #[.int .i64 0, .int .i64 0]) ?_ 1 _ rfl; (with_reducible repeat (first | refine blk_drewN ?_ _ | refine blk_drew ?_ | refine blk_alloc ?_ _)); refine blk_put (cs := #[.int .i64 0, .int .i64 0]) ?_ 0 _ rfl; (with_reducible repeat (first | refine blk_drewN ?_ _ | refine blk_drew ?_ | refine blk_alloc ?_ _)); exact BK148.out) Try.underlying81 rfl (by kernel_rfl) (.cell gb149 81 #[.int .i64 1, .int .i64 1] (0, 0) _ rfl (by (with_reducible repeat (first | refine blk_drewN ?_ _ | refine blk_drew ?_ | refine blk_alloc ?_ _)); refine blk_far ?_ NB149_150.out _; (with_reducible repeat (first | refine blk_drewN ?_ _ | refine blk_drew ?_ | refine blk_alloc ?_ _)); refine blk_far ?_ NB149_150.out _; (with_reducible repeat (first | refine blk_drewN ?_ _ | refine blk_drew ?_ | refine blk_alloc ?_ _)); refine blk_put (cs := #[.int .i64 1, .int .i64 0]) ?_ 1 _ rfl; (with_reducible repeat (first | refine blk_drewN ?_ _ | refine blk_drew ?_ | refine blk_alloc ?_ _)); refine blk_put (cs := #[.int .i64 0, .int .i64 0]) ?_ 0 _ rfl; (with_reducible repeat (first | refine blk_drewN ?_ _ | refine blk_drew ?_ | refine blk_alloc ?_ _)); refine blk_far ?_ NB149_148.out _; (with_reducible repeat (first | refine blk_drewN ?_ _ | refine blk_drew ?_ | refine blk_alloc ?_ _)); refine blk_far ?_ NB149_148.out _; (with_reducible repeat (first | refine blk_drewN ?_ _ | refine blk_drew ?_ | refine blk_alloc ?_ _)); exact BK149.out) Try.underlying81 rfl (by kernel_rfl) (.cell gb150 81 #[.int .i64 0, .int .i64 0] (0, 0) _ rfl (by (with_reducible repeat (first | refine blk_drewN ?_ _ | refine blk_drew ?_ | refine blk_alloc ?_ _)); refine blk_put (cs := #[.int .i64 0, .int .i64 0]) ?_ 1 _ rfl; (with_reducible repeat (first | refine blk_drewN ?_ _ | refine blk_drew ?_ | refine blk_alloc ?_ _)); refine blk_put (cs := #[.int .i64 0, .int .i64 0]) ?_ 0 _ rfl; (with_reducible repeat (first | refine blk_drewN ?_ _ | refine blk_drew ?_ | refine blk_alloc ?_ _)); refine blk_far ?_ NB150_149.out _; (with_reducible repeat (first | refine blk_drewN ?_ _ | refine blk_drew ?_ | refine blk_alloc ?_ _)); refine blk_far ?_ NB150_149.out _; (with_reducible repeat (first | refine blk_drewN ?_ _ | refine blk_drew ?_ | refine blk_alloc ?_ _)); refine blk_far ?_ NB150_148.out _; (with_reducible repeat (first | refine blk_drewN ?_ _ | refine blk_drew ?_ | refine blk_alloc ?_ _)); refine blk_far ?_ NB150_148.out _; (with_reducible repeat (first | refine blk_drewN ?_ _ | refine blk_drew ?_ | refine blk_alloc ?_ _)); exact BK150.out) Try.underlying81 rfl (by kernel_rfl) .nil)))) rfl ?_
         exact ⟨by first | rfl | (simp [errW_none, errW_some] <;> rfl) | (simp [*, errW_none, errW_some] <;> rfl), bS HB.out⟩
        ·rw [if_neg c44] at H
         have c44b0 : (a0 == 6) = false := beq_eq_false_iff_ne.mpr c44
         have c44b1 : (a0 != 6) = true := bne_iff_ne.mpr c44
         by_cases c52 : a0 = 15
         ·rw [if_pos c52] at H
          have c52b0 : (a0 == 15) = true := beq_iff_eq.mpr c52
          have c52b1 : (a0 != 15) = false := bne_eq_false_iff_eq.mpr c52
          clear c52
          simp only [Option.some.injEq, Prod.mk.injEq] at H
          obtain ⟨rfl, rfl, rfl, rfl, rfl, rfl⟩ := H
          try go_wp2
          have n0_ := aM (blk_drew BK148.out)
          have n1_ := aM (blk_drew BK149.out)
          have n2_ := aM (blk_drew BK150.out)
          have n3_ := aM (blk_drew BK151.out)
          have n4_ := aM (blk_drew BK152.out)
          have n5_ := aM (below_drew1 HB.out)
          clear BK148
          clear BK149
          clear BK150
          clear BK151
          clear BK152
          clear HB
          have BK148 := n0_
          have BK149 := n1_
          have BK150 := n2_
          have BK151 := n3_
          have BK152 := n4_
          have HB := n5_
          clear n0_ n1_ n2_ n3_ n4_ n5_
          refine start_ (n := 6) (S := fun w' => w'.cell? ⟨gb151, 0, none⟩ = some (.int .i64 0) ∧ w'.cell? ⟨gb151, 1, none⟩ = some (.int .i64 0)) (ds := []) #[false, false, false, false, false, false] (by kernel_rfl) rfl rfl ⟨(blk_cell BK151.out 0).trans rfl, (blk_cell BK151.out 1).trans rfl⟩ (fun hHeld => ?_)
          generalize wc.drew = w53 at BK148 BK149 BK150 BK151 BK152 HB hHeld ⊢
          refine pure_ (i := 2) (N := some 36) (v := ?_) (a' := ?_) #[false, false, true, false, false, false] rfl rfl (by kernel_rfl) (fun _ _ _ h => h) (Or.inl ⟨by rfl, ?_⟩) ?_ ?_
          rotate_left
          ·intro w'
           go_simp
           with_reducible rfl
          rotate_left
          ·simp only [Act.put, List.setIfInBounds_toArray, List.set_cons_zero, List.set_cons_succ, i64_w, i32_w]
           rfl
          refine take_ (i := 0) (N := some 34) (v := ?_) (a' := ?_) #[true, false, true, false, false, false] rfl rfl (by kernel_rfl) (fun _ _ _ h => h) (Or.inl ⟨by rfl, ?_⟩) hHeld ?_ ?_
          rotate_left
          ·rintro w' ⟨s0, s1⟩
           go_simp
           with_reducible rfl
          rotate_left
          ·simp only [Act.put, List.setIfInBounds_toArray, List.set_cons_zero, List.set_cons_succ, i64_w, i32_w]
           rfl
          refine take_ (i := 1) (N := some 35) (v := ?_) (a' := ?_) #[true, true, true, false, false, false] rfl rfl (by kernel_rfl) (fun _ _ _ h => h) (Or.inl ⟨by rfl, ?_⟩) hHeld ?_ ?_
          rotate_left
          ·rintro w' ⟨s0, s1⟩
           go_simp
           with_reducible rfl
          rotate_left
          ·simp only [Act.put, List.setIfInBounds_toArray, List.set_cons_zero, List.set_cons_succ, i64_w, i32_w]
           rfl
          refine one_ (i := 3) (N := none) #[true, true, true, true, false, false] rfl rfl (by kernel_rfl) (by decide) (fun K hK => ?_)
          have hs54 : w53.cell? ⟨gb148, 0, none⟩ = some (.int .i64 0) := (blk_cell BK148.out 0).trans rfl
          have hfs54 := blk_frozen BK148.out 0
          have hns54_1 := NB149_148.out
          have hns54_2 := NB150_148.out
          have hns54_3 := NB151_148.out
          have hns54_4 := NB152_148.out
          have hms54_1 := NB148_149.out
          have hms54_2 := NB148_150.out
          have hms54_3 := NB148_151.out
          have hms54_4 := NB148_152.out
          have hs55 : w53.cell? ⟨gb148, 1, none⟩ = some (.int .i64 0) := (blk_cell BK148.out 1).trans rfl
          have hfs55 := blk_frozen BK148.out 1
          have hns55_1 := NB149_148.out
          have hns55_2 := NB150_148.out
          have hns55_3 := NB151_148.out
          have hns55_4 := NB152_148.out
          have hms55_1 := NB148_149.out
          have hms55_2 := NB148_150.out
          have hms55_3 := NB148_151.out
          have hms55_4 := NB148_152.out
          refine skip_ (w1 := ?_) (by rfl) rfl ?_ ?_
          rotate_left
          ·go_simp
           rfl
          refine hK.out _ _ ⟨((cell_far (p := ⟨gb148, _, none⟩) NB151_148.out _).trans (((cell_far (p := ⟨gb148, _, none⟩) NB151_148.out _).trans (hHeld.1)))), ((cell_far (p := ⟨gb148, _, none⟩) NB151_148.out _).trans (((cell_far (p := ⟨gb148, _, none⟩) NB151_148.out _).trans (hHeld.2))))⟩ (fun hHeld => ?_)
          clear hK K
          refine one_ (i := 4) (N := none) #[true, true, true, true, true, false] rfl rfl (by kernel_rfl) (by decide) (fun K hK => ?_)
          have hs56 : w53.cell? ⟨gb149, 0, none⟩ = some (.int .i64 0) := (blk_cell BK149.out 0).trans rfl
          have hfs56 := blk_frozen BK149.out 0
          have hns56_0 := NB148_149.out
          have hns56_2 := NB150_149.out
          have hns56_3 := NB151_149.out
          have hns56_4 := NB152_149.out
          have hms56_0 := NB149_148.out
          have hms56_2 := NB149_150.out
          have hms56_3 := NB149_151.out
          have hms56_4 := NB149_152.out
          have hs57 : w53.cell? ⟨gb149, 1, none⟩ = some (.int .i64 0) := (blk_cell BK149.out 1).trans rfl
          have hfs57 := blk_frozen BK149.out 1
          have hns57_0 := NB148_149.out
          have hns57_2 := NB150_149.out
          have hns57_3 := NB151_149.out
          have hns57_4 := NB152_149.out
          have hms57_0 := NB149_148.out
          have hms57_2 := NB149_150.out
          have hms57_3 := NB149_151.out
          have hms57_4 := NB149_152.out
          refine skip_ (w1 := ?_) (by rfl) rfl ?_ ?_
          rotate_left
          ·go_simp
           rfl
          refine hK.out _ _ ⟨((cell_far (p := ⟨gb149, _, none⟩) NB151_149.out _).trans (((cell_far (p := ⟨gb149, _, none⟩) NB151_149.out _).trans (hHeld.1)))), ((cell_far (p := ⟨gb149, _, none⟩) NB151_149.out _).trans (((cell_far (p := ⟨gb149, _, none⟩) NB151_149.out _).trans (hHeld.2))))⟩ (fun hHeld => ?_)
          clear hK K
          refine one_ (i := 5) (N := none) #[true, true, true, true, true, true] rfl rfl (by kernel_rfl) (by decide) (fun K hK => ?_)
          have hs58 : w53.cell? ⟨gb150, 0, none⟩ = some (.int .i64 0) := (blk_cell BK150.out 0).trans rfl
          have hfs58 := blk_frozen BK150.out 0
          have hns58_0 := NB148_150.out
          have hns58_1 := NB149_150.out
          have hns58_3 := NB151_150.out
          have hns58_4 := NB152_150.out
          have hms58_0 := NB150_148.out
          have hms58_1 := NB150_149.out
          have hms58_3 := NB150_151.out
          have hms58_4 := NB150_152.out
          have hs59 : w53.cell? ⟨gb150, 1, none⟩ = some (.int .i64 0) := (blk_cell BK150.out 1).trans rfl
          have hfs59 := blk_frozen BK150.out 1
          have hns59_0 := NB148_150.out
          have hns59_1 := NB149_150.out
          have hns59_3 := NB151_150.out
          have hns59_4 := NB152_150.out
          have hms59_0 := NB150_148.out
          have hms59_1 := NB150_149.out
          have hms59_3 := NB150_151.out
          have hms59_4 := NB150_152.out
          refine skip_ (w1 := ?_) (by rfl) rfl ?_ ?_
          rotate_left
          ·go_simp
           rfl
          refine hK.out _ _ ⟨((cell_far (p := ⟨gb150, _, none⟩) NB151_150.out _).trans (((cell_far (p := ⟨gb150, _, none⟩) NB151_150.out _).trans (hHeld.1)))), ((cell_far (p := ⟨gb150, _, none⟩) NB151_150.out _).trans (((cell_far (p := ⟨gb150, _, none⟩) NB151_150.out _).trans (hHeld.2))))⟩ (fun hHeld => ?_)
          clear hK K
          refine done_ (by kernel_rfl) ?_
          try go_wp2
          refine bodyPost_ret (results_list (rs := [.cell 2 81, .cell 3 81, .cell 4 81]) rfl (by simp) (.cell gb148 81 #[.int .i64 0, .int .i64 0] (0, 0) _ rfl (by (with_reducible repeat (first | refine blk_drewN ?_ _ | refine blk_drew ?_ | refine blk_alloc ?_ _)); refine blk_far ?_ NB148_150.out _; (with_reducible repeat (first | refine blk_drewN ?_ _ | refine blk_drew ?_ | refine blk_alloc ?_ _)); refine blk_far ?_ NB148_150.out _; (with_reducible repeat (first | refine blk_drewN ?_ _ | refine blk_drew ?_ | refine blk_alloc ?_ _)); refine blk_far ?_ NB148_149.out _; (with_reducible repeat (first | refine blk_drewN ?_ _ | refine blk_drew ?_ | refine blk_alloc ?_ _)); refine blk_far ?_ NB148_149.out _; (with_reducible repeat (first | refine blk_drewN ?_ _ | refine blk_drew ?_ | refine blk_alloc ?_ _)); refine blk_put (cs := #[.int .i64 0, .int .i64 0]) ?_ 1 _ rfl; (with_reducible repeat (first | refine blk_drewN ?_ _ | refine blk_drew ?_ | refine blk_alloc ?_ _)); refine blk_put (cs := #[.int .i64 0, .int .i64 0]) ?_ 0 _ rfl; (with_reducible repeat (first | refine blk_drewN ?_ _ | refine blk_drew ?_ | refine blk_alloc ?_ _)); exact BK148.out) Try.underlying81 rfl (by kernel_rfl) (.cell gb149 81 #[.int .i64 0, .int .i64 0] (0, 0) _ rfl (by (with_reducible repeat (first | refine blk_drewN ?_ _ | refine blk_drew ?_ | refine blk_alloc ?_ _)); refine blk_far ?_ NB149_150.out _; (with_reducible repeat (first | refine blk_drewN ?_ _ | refine blk_drew ?_ | refine blk_alloc ?_ _)); refine blk_far ?_ NB149_150.out _; (with_reducible repeat (first | refine blk_drewN ?_ _ | refine blk_drew ?_ | refine blk_alloc ?_ _)); refine blk_put (cs := #[.int .i64 0, .int .i64 0]) ?_ 1 _ rfl; (with_reducible repeat (first | refine blk_drewN ?_ _ | refine blk_drew ?_ | refine blk_alloc ?_ _)); refine blk_put (cs := #[.int .i64 0, .int .i64 0]) ?_ 0 _ rfl; (with_reducible repeat (first | refine blk_drewN ?_ _ | refine blk_drew ?_ | refine blk_alloc ?_ _)); refine blk_far ?_ NB149_148.out _; (with_reducible repeat (first | refine blk_drewN ?_ _ | refine blk_drew ?_ | refine blk_alloc ?_ _)); refine blk_far ?_ NB149_148.out _; (with_reducible repeat (first | refine blk_drewN ?_ _ | refine blk_drew ?_ | refine blk_alloc ?_ _)); exact BK149.out) Try.underlying81 rfl (by kernel_rfl) (.cell gb150 81 #[.int .i64 1, .int .i64 1968] (0, 0) _ rfl (by (with_reducible repeat (first | refine blk_drewN ?_ _ | refine blk_drew ?_ | refine blk_alloc ?_ _)); refine blk_put (cs := #[.int .i64 1, .int .i64 0]) ?_ 1 _ rfl; (with_reducible repeat (first | refine blk_drewN ?_ _ | refine blk_drew ?_ | refine blk_alloc ?_ _)); refine blk_put (cs := #[.int .i64 0, .int .i64 0]) ?_ 0 _ rfl; (with_reducible repeat (first | refine blk_drewN ?_ _ | refine blk_drew ?_ | refine blk_alloc ?_ _)); refine blk_far ?_ NB150_149.out _; (with_reducible repeat (first | refine blk_drewN ?_ _ | refine blk_drew ?_ | refine blk_alloc ?_ _)); refine blk_far ?_ NB150_149.out _; (with_reducible repeat (first | refine blk_drewN ?_ _ | refine blk_drew ?_ | refine blk_alloc ?_ _)); refine blk_far ?_ NB150_148.out _; (with_reducible repeat (first | refine blk_drewN ?_ _ | refine blk_drew ?_ | refine blk_alloc ?_ _)); refine blk_far ?_ NB150_148.out _; (with_reducible repeat (first | refine blk_drewN ?_ _ | refine blk_drew ?_ | refine blk_alloc ?_ _)); exact BK150.out) Try.underlying81 rfl (by kernel_rfl) .nil)))) rfl ?_
          exact ⟨by first | rfl | (simp [errW_none, errW_some] <;> rfl) | (simp [*, errW_none, errW_some] <;> rfl), bS HB.out⟩
         ·rw [if_neg c52] at H
          have c52b0 : (a0 == 15) = false := beq_eq_false_iff_ne.mpr c52
          have c52b1 : (a0 != 15) = true := bne_iff_ne.mpr c52
          by_cases c60 : a0 = 16
          ·rw [if_pos c60] at H
           have c60b0 : (a0 == 16) = true := beq_iff_eq.mpr c60
           have c60b1 : (a0 != 16) = false := bne_eq_false_iff_eq.mpr c60
           clear c60
           simp only [Option.some.injEq, Prod.mk.injEq] at H
           obtain ⟨rfl, rfl, rfl, rfl, rfl, rfl⟩ := H
           try go_wp2
           have n0_ := aM (blk_drew BK148.out)
           have n1_ := aM (blk_drew BK149.out)
           have n2_ := aM (blk_drew BK150.out)
           have n3_ := aM (blk_drew BK151.out)
           have n4_ := aM (blk_drew BK152.out)
           have n5_ := aM (below_drew1 HB.out)
           clear BK148
           clear BK149
           clear BK150
           clear BK151
           clear BK152
           clear HB
           have BK148 := n0_
           have BK149 := n1_
           have BK150 := n2_
           have BK151 := n3_
           have BK152 := n4_
           have HB := n5_
           clear n0_ n1_ n2_ n3_ n4_ n5_
           refine start_ (n := 6) (S := fun w' => w'.cell? ⟨gb151, 0, none⟩ = some (.int .i64 0) ∧ w'.cell? ⟨gb151, 1, none⟩ = some (.int .i64 0)) (ds := []) #[false, false, false, false, false, false] (by kernel_rfl) rfl rfl ⟨(blk_cell BK151.out 0).trans rfl, (blk_cell BK151.out 1).trans rfl⟩ (fun hHeld => ?_)
           generalize wc.drew = w61 at BK148 BK149 BK150 BK151 BK152 HB hHeld ⊢
           refine pure_ (i := 1) (N := some 40) (v := ?_) (a' := ?_) #[false, true, false, false, false, false] rfl rfl (by kernel_rfl) (fun _ _ _ h => h) (Or.inl ⟨by rfl, ?_⟩) ?_ ?_
           rotate_left
           ·intro w'
            go_simp
            with_reducible rfl
           rotate_left
           ·simp only [Act.put, List.setIfInBounds_toArray, List.set_cons_zero, List.set_cons_succ, i64_w, i32_w]
            rfl
           refine take_ (i := 0) (N := some 39) (v := ?_) (a' := ?_) #[true, true, false, false, false, false] rfl rfl (by kernel_rfl) (fun _ _ _ h => h) (Or.inl ⟨by rfl, ?_⟩) hHeld ?_ ?_
           rotate_left
           ·rintro w' ⟨s0, s1⟩
            go_simp
            with_reducible rfl
           rotate_left
           ·simp only [Act.put, List.setIfInBounds_toArray, List.set_cons_zero, List.set_cons_succ, i64_w, i32_w]
            rfl
           refine take_ (i := 2) (N := some 41) (v := ?_) (a' := ?_) #[true, true, true, false, false, false] rfl rfl (by kernel_rfl) (fun _ _ _ h => h) (Or.inl ⟨by rfl, ?_⟩) hHeld ?_ ?_
           rotate_left
           ·rintro w' ⟨s0, s1⟩
            go_simp
            with_reducible rfl
           rotate_left
           ·simp only [Act.put, List.setIfInBounds_toArray, List.set_cons_zero, List.set_cons_succ, i64_w, i32_w]
            rfl
           refine one_ (i := 3) (N := none) #[true, true, true, true, false, false] rfl rfl (by kernel_rfl) (by decide) (fun K hK => ?_)
           have hs62 : w61.cell? ⟨gb148, 0, none⟩ = some (.int .i64 0) := (blk_cell BK148.out 0).trans rfl
           have hfs62 := blk_frozen BK148.out 0
           have hns62_1 := NB149_148.out
           have hns62_2 := NB150_148.out
           have hns62_3 := NB151_148.out
           have hns62_4 := NB152_148.out
           have hms62_1 := NB148_149.out
           have hms62_2 := NB148_150.out
           have hms62_3 := NB148_151.out
           have hms62_4 := NB148_152.out
           have hs63 : w61.cell? ⟨gb148, 1, none⟩ = some (.int .i64 0) := (blk_cell BK148.out 1).trans rfl
           have hfs63 := blk_frozen BK148.out 1
           have hns63_1 := NB149_148.out
           have hns63_2 := NB150_148.out
           have hns63_3 := NB151_148.out
           have hns63_4 := NB152_148.out
           have hms63_1 := NB148_149.out
           have hms63_2 := NB148_150.out
           have hms63_3 := NB148_151.out
           have hms63_4 := NB148_152.out
           refine skip_ (w1 := ?_) (by rfl) rfl ?_ ?_
           rotate_left
           ·go_simp
            rfl
           refine hK.out _ _ ⟨((cell_far (p := ⟨gb148, _, none⟩) NB151_148.out _).trans (((cell_far (p := ⟨gb148, _, none⟩) NB151_148.out _).trans (hHeld.1)))), ((cell_far (p := ⟨gb148, _, none⟩) NB151_148.out _).trans (((cell_far (p := ⟨gb148, _, none⟩) NB151_148.out _).trans (hHeld.2))))⟩ (fun hHeld => ?_)
           clear hK K
           refine one_ (i := 4) (N := none) #[true, true, true, true, true, false] rfl rfl (by kernel_rfl) (by decide) (fun K hK => ?_)
           have hs64 : w61.cell? ⟨gb149, 0, none⟩ = some (.int .i64 0) := (blk_cell BK149.out 0).trans rfl
           have hfs64 := blk_frozen BK149.out 0
           have hns64_0 := NB148_149.out
           have hns64_2 := NB150_149.out
           have hns64_3 := NB151_149.out
           have hns64_4 := NB152_149.out
           have hms64_0 := NB149_148.out
           have hms64_2 := NB149_150.out
           have hms64_3 := NB149_151.out
           have hms64_4 := NB149_152.out
           have hs65 : w61.cell? ⟨gb149, 1, none⟩ = some (.int .i64 0) := (blk_cell BK149.out 1).trans rfl
           have hfs65 := blk_frozen BK149.out 1
           have hns65_0 := NB148_149.out
           have hns65_2 := NB150_149.out
           have hns65_3 := NB151_149.out
           have hns65_4 := NB152_149.out
           have hms65_0 := NB149_148.out
           have hms65_2 := NB149_150.out
           have hms65_3 := NB149_151.out
           have hms65_4 := NB149_152.out
           refine skip_ (w1 := ?_) (by rfl) rfl ?_ ?_
           rotate_left
           ·go_simp
            rfl
           refine hK.out _ _ ⟨((cell_far (p := ⟨gb149, _, none⟩) NB151_149.out _).trans (((cell_far (p := ⟨gb149, _, none⟩) NB151_149.out _).trans (hHeld.1)))), ((cell_far (p := ⟨gb149, _, none⟩) NB151_149.out _).trans (((cell_far (p := ⟨gb149, _, none⟩) NB151_149.out _).trans (hHeld.2))))⟩ (fun hHeld => ?_)
           clear hK K
           refine one_ (i := 5) (N := none) #[true, true, true, true, true, true] rfl rfl (by kernel_rfl) (by decide) (fun K hK => ?_)
           have hs66 : w61.cell? ⟨gb150, 0, none⟩ = some (.int .i64 0) := (blk_cell BK150.out 0).trans rfl
           have hfs66 := blk_frozen BK150.out 0
           have hns66_0 := NB148_150.out
           have hns66_1 := NB149_150.out
           have hns66_3 := NB151_150.out
           have hns66_4 := NB152_150.out
           have hms66_0 := NB150_148.out
           have hms66_1 := NB150_149.out
           have hms66_3 := NB150_151.out
           have hms66_4 := NB150_152.out
           have hs67 : w61.cell? ⟨gb150, 1, none⟩ = some (.int .i64 0) := (blk_cell BK150.out 1).trans rfl
           have hfs67 := blk_frozen BK150.out 1
           have hns67_0 := NB148_150.out
           have hns67_1 := NB149_150.out
           have hns67_3 := NB151_150.out
           have hns67_4 := NB152_150.out
           have hms67_0 := NB150_148.out
           have hms67_1 := NB150_149.out
           have hms67_3 := NB150_151.out
           have hms67_4 := NB150_152.out
           refine skip_ (w1 := ?_) (by rfl) rfl ?_ ?_
           rotate_left
           ·go_simp
            rfl
           refine hK.out _ _ ⟨((cell_far (p := ⟨gb150, _, none⟩) NB151_150.out _).trans (((cell_far (p := ⟨gb150, _, none⟩) NB151_150.out _).trans (hHeld.1)))), ((cell_far (p := ⟨gb150, _, none⟩) NB151_150.out _).trans (((cell_far (p := ⟨gb150, _, none⟩) NB151_150.out _).trans (hHeld.2))))⟩ (fun hHeld => ?_)
           clear hK K
           refine done_ (by kernel_rfl) ?_
           try go_wp2
           refine bodyPost_ret (results_list (rs := [.cell 2 81, .cell 3 81, .cell 4 81]) rfl (by simp) (.cell gb148 81 #[.int .i64 0, .int .i64 0] (0, 0) _ rfl (by (with_reducible repeat (first | refine blk_drewN ?_ _ | refine blk_drew ?_ | refine blk_alloc ?_ _)); refine blk_far ?_ NB148_150.out _; (with_reducible repeat (first | refine blk_drewN ?_ _ | refine blk_drew ?_ | refine blk_alloc ?_ _)); refine blk_far ?_ NB148_150.out _; (with_reducible repeat (first | refine blk_drewN ?_ _ | refine blk_drew ?_ | refine blk_alloc ?_ _)); refine blk_far ?_ NB148_149.out _; (with_reducible repeat (first | refine blk_drewN ?_ _ | refine blk_drew ?_ | refine blk_alloc ?_ _)); refine blk_far ?_ NB148_149.out _; (with_reducible repeat (first | refine blk_drewN ?_ _ | refine blk_drew ?_ | refine blk_alloc ?_ _)); refine blk_put (cs := #[.int .i64 0, .int .i64 0]) ?_ 1 _ rfl; (with_reducible repeat (first | refine blk_drewN ?_ _ | refine blk_drew ?_ | refine blk_alloc ?_ _)); refine blk_put (cs := #[.int .i64 0, .int .i64 0]) ?_ 0 _ rfl; (with_reducible repeat (first | refine blk_drewN ?_ _ | refine blk_drew ?_ | refine blk_alloc ?_ _)); exact BK148.out) Try.underlying81 rfl (by kernel_rfl) (.cell gb149 81 #[.int .i64 1, .int .i64 123] (0, 0) _ rfl (by (with_reducible repeat (first | refine blk_drewN ?_ _ | refine blk_drew ?_ | refine blk_alloc ?_ _)); refine blk_far ?_ NB149_150.out _; (with_reducible repeat (first | refine blk_drewN ?_ _ | refine blk_drew ?_ | refine blk_alloc ?_ _)); refine blk_far ?_ NB149_150.out _; (with_reducible repeat (first | refine blk_drewN ?_ _ | refine blk_drew ?_ | refine blk_alloc ?_ _)); refine blk_put (cs := #[.int .i64 1, .int .i64 0]) ?_ 1 _ rfl; (with_reducible repeat (first | refine blk_drewN ?_ _ | refine blk_drew ?_ | refine blk_alloc ?_ _)); refine blk_put (cs := #[.int .i64 0, .int .i64 0]) ?_ 0 _ rfl; (with_reducible repeat (first | refine blk_drewN ?_ _ | refine blk_drew ?_ | refine blk_alloc ?_ _)); refine blk_far ?_ NB149_148.out _; (with_reducible repeat (first | refine blk_drewN ?_ _ | refine blk_drew ?_ | refine blk_alloc ?_ _)); refine blk_far ?_ NB149_148.out _; (with_reducible repeat (first | refine blk_drewN ?_ _ | refine blk_drew ?_ | refine blk_alloc ?_ _)); exact BK149.out) Try.underlying81 rfl (by kernel_rfl) (.cell gb150 81 #[.int .i64 0, .int .i64 0] (0, 0) _ rfl (by (with_reducible repeat (first | refine blk_drewN ?_ _ | refine blk_drew ?_ | refine blk_alloc ?_ _)); refine blk_put (cs := #[.int .i64 0, .int .i64 0]) ?_ 1 _ rfl; (with_reducible repeat (first | refine blk_drewN ?_ _ | refine blk_drew ?_ | refine blk_alloc ?_ _)); refine blk_put (cs := #[.int .i64 0, .int .i64 0]) ?_ 0 _ rfl; (with_reducible repeat (first | refine blk_drewN ?_ _ | refine blk_drew ?_ | refine blk_alloc ?_ _)); refine blk_far ?_ NB150_149.out _; (with_reducible repeat (first | refine blk_drewN ?_ _ | refine blk_drew ?_ | refine blk_alloc ?_ _)); refine blk_far ?_ NB150_149.out _; (with_reducible repeat (first | refine blk_drewN ?_ _ | refine blk_drew ?_ | refine blk_alloc ?_ _)); refine blk_far ?_ NB150_148.out _; (with_reducible repeat (first | refine blk_drewN ?_ _ | refine blk_drew ?_ | refine blk_alloc ?_ _)); refine blk_far ?_ NB150_148.out _; (with_reducible repeat (first | refine blk_drewN ?_ _ | refine blk_drew ?_ | refine blk_alloc ?_ _)); exact BK150.out) Try.underlying81 rfl (by kernel_rfl) .nil)))) rfl ?_
           exact ⟨by first | rfl | (simp [errW_none, errW_some] <;> rfl) | (simp [*, errW_none, errW_some] <;> rfl), bS HB.out⟩
          ·rw [if_neg c60] at H
           have c60b0 : (a0 == 16) = false := beq_eq_false_iff_ne.mpr c60
           have c60b1 : (a0 != 16) = true := bne_iff_ne.mpr c60
           by_cases c68 : a0 = 22
           ·rw [if_pos c68] at H
            have c68b0 : (a0 == 22) = true := beq_iff_eq.mpr c68
            have c68b1 : (a0 != 22) = false := bne_eq_false_iff_eq.mpr c68
            clear c68
            simp only [Option.some.injEq, Prod.mk.injEq] at H
            obtain ⟨rfl, rfl, rfl, rfl, rfl, rfl⟩ := H
            try go_wp2
            have n0_ := aM (blk_drew BK148.out)
            have n1_ := aM (blk_drew BK149.out)
            have n2_ := aM (blk_drew BK150.out)
            have n3_ := aM (blk_drew BK151.out)
            have n4_ := aM (blk_drew BK152.out)
            have n5_ := aM (below_drew1 HB.out)
            clear BK148
            clear BK149
            clear BK150
            clear BK151
            clear BK152
            clear HB
            have BK148 := n0_
            have BK149 := n1_
            have BK150 := n2_
            have BK151 := n3_
            have BK152 := n4_
            have HB := n5_
            clear n0_ n1_ n2_ n3_ n4_ n5_
            refine start_ (n := 6) (S := fun w' => w'.cell? ⟨gb151, 0, none⟩ = some (.int .i64 0) ∧ w'.cell? ⟨gb151, 1, none⟩ = some (.int .i64 0)) (ds := []) #[false, false, false, false, false, false] (by kernel_rfl) rfl rfl ⟨(blk_cell BK151.out 0).trans rfl, (blk_cell BK151.out 1).trans rfl⟩ (fun hHeld => ?_)
            generalize wc.drew = w69 at BK148 BK149 BK150 BK151 BK152 HB hHeld ⊢
            refine pure_ (i := 1) (N := some 45) (v := ?_) (a' := ?_) #[false, true, false, false, false, false] rfl rfl (by kernel_rfl) (fun _ _ _ h => h) (Or.inl ⟨by rfl, ?_⟩) ?_ ?_
            rotate_left
            ·intro w'
             go_simp
             with_reducible rfl
            rotate_left
            ·simp only [Act.put, List.setIfInBounds_toArray, List.set_cons_zero, List.set_cons_succ, i64_w, i32_w]
             rfl
            refine take_ (i := 0) (N := some 44) (v := ?_) (a' := ?_) #[true, true, false, false, false, false] rfl rfl (by kernel_rfl) (fun _ _ _ h => h) (Or.inl ⟨by rfl, ?_⟩) hHeld ?_ ?_
            rotate_left
            ·rintro w' ⟨s0, s1⟩
             go_simp
             with_reducible rfl
            rotate_left
            ·simp only [Act.put, List.setIfInBounds_toArray, List.set_cons_zero, List.set_cons_succ, i64_w, i32_w]
             rfl
            refine take_ (i := 2) (N := some 46) (v := ?_) (a' := ?_) #[true, true, true, false, false, false] rfl rfl (by kernel_rfl) (fun _ _ _ h => h) (Or.inl ⟨by rfl, ?_⟩) hHeld ?_ ?_
            rotate_left
            ·rintro w' ⟨s0, s1⟩
             go_simp
             with_reducible rfl
            rotate_left
            ·simp only [Act.put, List.setIfInBounds_toArray, List.set_cons_zero, List.set_cons_succ, i64_w, i32_w]
             rfl
            refine one_ (i := 3) (N := none) #[true, true, true, true, false, false] rfl rfl (by kernel_rfl) (by decide) (fun K hK => ?_)
            have hs70 : w69.cell? ⟨gb148, 0, none⟩ = some (.int .i64 0) := (blk_cell BK148.out 0).trans rfl
            have hfs70 := blk_frozen BK148.out 0
            have hns70_1 := NB149_148.out
            have hns70_2 := NB150_148.out
            have hns70_3 := NB151_148.out
            have hns70_4 := NB152_148.out
            have hms70_1 := NB148_149.out
            have hms70_2 := NB148_150.out
            have hms70_3 := NB148_151.out
            have hms70_4 := NB148_152.out
            have hs71 : w69.cell? ⟨gb148, 1, none⟩ = some (.int .i64 0) := (blk_cell BK148.out 1).trans rfl
            have hfs71 := blk_frozen BK148.out 1
            have hns71_1 := NB149_148.out
            have hns71_2 := NB150_148.out
            have hns71_3 := NB151_148.out
            have hns71_4 := NB152_148.out
            have hms71_1 := NB148_149.out
            have hms71_2 := NB148_150.out
            have hms71_3 := NB148_151.out
            have hms71_4 := NB148_152.out
            refine skip_ (w1 := ?_) (by rfl) rfl ?_ ?_
            rotate_left
            ·go_simp
             rfl
            refine hK.out _ _ ⟨((cell_far (p := ⟨gb148, _, none⟩) NB151_148.out _).trans (((cell_far (p := ⟨gb148, _, none⟩) NB151_148.out _).trans (hHeld.1)))), ((cell_far (p := ⟨gb148, _, none⟩) NB151_148.out _).trans (((cell_far (p := ⟨gb148, _, none⟩) NB151_148.out _).trans (hHeld.2))))⟩ (fun hHeld => ?_)
            clear hK K
            refine one_ (i := 4) (N := none) #[true, true, true, true, true, false] rfl rfl (by kernel_rfl) (by decide) (fun K hK => ?_)
            have hs72 : w69.cell? ⟨gb149, 0, none⟩ = some (.int .i64 0) := (blk_cell BK149.out 0).trans rfl
            have hfs72 := blk_frozen BK149.out 0
            have hns72_0 := NB148_149.out
            have hns72_2 := NB150_149.out
            have hns72_3 := NB151_149.out
            have hns72_4 := NB152_149.out
            have hms72_0 := NB149_148.out
            have hms72_2 := NB149_150.out
            have hms72_3 := NB149_151.out
            have hms72_4 := NB149_152.out
            have hs73 : w69.cell? ⟨gb149, 1, none⟩ = some (.int .i64 0) := (blk_cell BK149.out 1).trans rfl
            have hfs73 := blk_frozen BK149.out 1
            have hns73_0 := NB148_149.out
            have hns73_2 := NB150_149.out
            have hns73_3 := NB151_149.out
            have hns73_4 := NB152_149.out
            have hms73_0 := NB149_148.out
            have hms73_2 := NB149_150.out
            have hms73_3 := NB149_151.out
            have hms73_4 := NB149_152.out
            refine skip_ (w1 := ?_) (by rfl) rfl ?_ ?_
            rotate_left
            ·go_simp
             rfl
            refine hK.out _ _ ⟨((cell_far (p := ⟨gb149, _, none⟩) NB151_149.out _).trans (((cell_far (p := ⟨gb149, _, none⟩) NB151_149.out _).trans (hHeld.1)))), ((cell_far (p := ⟨gb149, _, none⟩) NB151_149.out _).trans (((cell_far (p := ⟨gb149, _, none⟩) NB151_149.out _).trans (hHeld.2))))⟩ (fun hHeld => ?_)
            clear hK K
            refine one_ (i := 5) (N := none) #[true, true, true, true, true, true] rfl rfl (by kernel_rfl) (by decide) (fun K hK => ?_)
            have hs74 : w69.cell? ⟨gb150, 0, none⟩ = some (.int .i64 0) := (blk_cell BK150.out 0).trans rfl
            have hfs74 := blk_frozen BK150.out 0
            have hns74_0 := NB148_150.out
            have hns74_1 := NB149_150.out
            have hns74_3 := NB151_150.out
            have hns74_4 := NB152_150.out
            have hms74_0 := NB150_148.out
            have hms74_1 := NB150_149.out
            have hms74_3 := NB150_151.out
            have hms74_4 := NB150_152.out
            have hs75 : w69.cell? ⟨gb150, 1, none⟩ = some (.int .i64 0) := (blk_cell BK150.out 1).trans rfl
            have hfs75 := blk_frozen BK150.out 1
            have hns75_0 := NB148_150.out
            have hns75_1 := NB149_150.out
            have hns75_3 := NB151_150.out
            have hns75_4 := NB152_150.out
            have hms75_0 := NB150_148.out
            have hms75_1 := NB150_149.out
            have hms75_3 := NB150_151.out
            have hms75_4 := NB150_152.out
            refine skip_ (w1 := ?_) (by rfl) rfl ?_ ?_
            rotate_left
            ·go_simp
             rfl
            refine hK.out _ _ ⟨((cell_far (p := ⟨gb150, _, none⟩) NB151_150.out _).trans (((cell_far (p := ⟨gb150, _, none⟩) NB151_150.out _).trans (hHeld.1)))), ((cell_far (p := ⟨gb150, _, none⟩) NB151_150.out _).trans (((cell_far (p := ⟨gb150, _, none⟩) NB151_150.out _).trans (hHeld.2))))⟩ (fun hHeld => ?_)
            clear hK K
            refine done_ (by kernel_rfl) ?_
            try go_wp2
            refine bodyPost_ret (results_list (rs := [.cell 2 81, .cell 3 81, .cell 4 81]) rfl (by simp) (.cell gb148 81 #[.int .i64 0, .int .i64 0] (0, 0) _ rfl (by (with_reducible repeat (first | refine blk_drewN ?_ _ | refine blk_drew ?_ | refine blk_alloc ?_ _)); refine blk_far ?_ NB148_150.out _; (with_reducible repeat (first | refine blk_drewN ?_ _ | refine blk_drew ?_ | refine blk_alloc ?_ _)); refine blk_far ?_ NB148_150.out _; (with_reducible repeat (first | refine blk_drewN ?_ _ | refine blk_drew ?_ | refine blk_alloc ?_ _)); refine blk_far ?_ NB148_149.out _; (with_reducible repeat (first | refine blk_drewN ?_ _ | refine blk_drew ?_ | refine blk_alloc ?_ _)); refine blk_far ?_ NB148_149.out _; (with_reducible repeat (first | refine blk_drewN ?_ _ | refine blk_drew ?_ | refine blk_alloc ?_ _)); refine blk_put (cs := #[.int .i64 0, .int .i64 0]) ?_ 1 _ rfl; (with_reducible repeat (first | refine blk_drewN ?_ _ | refine blk_drew ?_ | refine blk_alloc ?_ _)); refine blk_put (cs := #[.int .i64 0, .int .i64 0]) ?_ 0 _ rfl; (with_reducible repeat (first | refine blk_drewN ?_ _ | refine blk_drew ?_ | refine blk_alloc ?_ _)); exact BK148.out) Try.underlying81 rfl (by kernel_rfl) (.cell gb149 81 #[.int .i64 2, .int .i64 2] (0, 0) _ rfl (by (with_reducible repeat (first | refine blk_drewN ?_ _ | refine blk_drew ?_ | refine blk_alloc ?_ _)); refine blk_far ?_ NB149_150.out _; (with_reducible repeat (first | refine blk_drewN ?_ _ | refine blk_drew ?_ | refine blk_alloc ?_ _)); refine blk_far ?_ NB149_150.out _; (with_reducible repeat (first | refine blk_drewN ?_ _ | refine blk_drew ?_ | refine blk_alloc ?_ _)); refine blk_put (cs := #[.int .i64 2, .int .i64 0]) ?_ 1 _ rfl; (with_reducible repeat (first | refine blk_drewN ?_ _ | refine blk_drew ?_ | refine blk_alloc ?_ _)); refine blk_put (cs := #[.int .i64 0, .int .i64 0]) ?_ 0 _ rfl; (with_reducible repeat (first | refine blk_drewN ?_ _ | refine blk_drew ?_ | refine blk_alloc ?_ _)); refine blk_far ?_ NB149_148.out _; (with_reducible repeat (first | refine blk_drewN ?_ _ | refine blk_drew ?_ | refine blk_alloc ?_ _)); refine blk_far ?_ NB149_148.out _; (with_reducible repeat (first | refine blk_drewN ?_ _ | refine blk_drew ?_ | refine blk_alloc ?_ _)); exact BK149.out) Try.underlying81 rfl (by kernel_rfl) (.cell gb150 81 #[.int .i64 0, .int .i64 0] (0, 0) _ rfl (by (with_reducible repeat (first | refine blk_drewN ?_ _ | refine blk_drew ?_ | refine blk_alloc ?_ _)); refine blk_put (cs := #[.int .i64 0, .int .i64 0]) ?_ 1 _ rfl; (with_reducible repeat (first | refine blk_drewN ?_ _ | refine blk_drew ?_ | refine blk_alloc ?_ _)); refine blk_put (cs := #[.int .i64 0, .int .i64 0]) ?_ 0 _ rfl; (with_reducible repeat (first | refine blk_drewN ?_ _ | refine blk_drew ?_ | refine blk_alloc ?_ _)); refine blk_far ?_ NB150_149.out _; (with_reducible repeat (first | refine blk_drewN ?_ _ | refine blk_drew ?_ | refine blk_alloc ?_ _)); refine blk_far ?_ NB150_149.out _; (with_reducible repeat (first | refine blk_drewN ?_ _ | refine blk_drew ?_ | refine blk_alloc ?_ _)); refine blk_far ?_ NB150_148.out _; (with_reducible repeat (first | refine blk_drewN ?_ _ | refine blk_drew ?_ | refine blk_alloc ?_ _)); refine blk_far ?_ NB150_148.out _; (with_reducible repeat (first | refine blk_drewN ?_ _ | refine blk_drew ?_ | refine blk_alloc ?_ _)); exact BK150.out) Try.underlying81 rfl (by kernel_rfl) .nil)))) rfl ?_
            exact ⟨by first | rfl | (simp [errW_none, errW_some] <;> rfl) | (simp [*, errW_none, errW_some] <;> rfl), bS HB.out⟩
           ·rw [if_neg c68] at H
            have c68b0 : (a0 == 22) = false := beq_eq_false_iff_ne.mpr c68
            have c68b1 : (a0 != 22) = true := bne_iff_ne.mpr c68
            simp only [Option.some.injEq, Prod.mk.injEq] at H
            obtain ⟨rfl, rfl, rfl, rfl, rfl, rfl⟩ := H
            try go_wp2
            have n0_ := aM (blk_drew BK148.out)
            have n1_ := aM (blk_drew BK149.out)
            have n2_ := aM (blk_drew BK150.out)
            have n3_ := aM (blk_drew BK151.out)
            have n4_ := aM (blk_drew BK152.out)
            have n5_ := aM (below_drew1 HB.out)
            clear BK148
            clear BK149
            clear BK150
            clear BK151
            clear BK152
            clear HB
            have BK148 := n0_
            have BK149 := n1_
            have BK150 := n2_
            have BK151 := n3_
            have BK152 := n4_
            have HB := n5_
            clear n0_ n1_ n2_ n3_ n4_ n5_
            refine start_ (n := 6) (S := fun w' => w'.cell? ⟨gb151, 0, none⟩ = some (.int .i64 0) ∧ w'.cell? ⟨gb151, 1, none⟩ = some (.int .i64 0)) (ds := []) #[false, false, false, false, false, false] (by kernel_rfl) rfl rfl ⟨(blk_cell BK151.out 0).trans rfl, (blk_cell BK151.out 1).trans rfl⟩ (fun hHeld => ?_)
            generalize wc.drew = w76 at BK148 BK149 BK150 BK151 BK152 HB hHeld ⊢
            refine pure_ (i := 0) (N := some 47) (v := ?_) (a' := ?_) #[true, false, false, false, false, false] rfl rfl (by kernel_rfl) (fun _ _ _ h => h) (Or.inl ⟨by rfl, ?_⟩) ?_ ?_
            rotate_left
            ·intro w'
             go_simp
             with_reducible rfl
            rotate_left
            ·simp only [Act.put, List.setIfInBounds_toArray, List.set_cons_zero, List.set_cons_succ, i64_w, i32_w]
             rfl
            refine pure_ (i := 1) (N := some 48) (v := ?_) (a' := ?_) #[true, true, false, false, false, false] rfl rfl (by kernel_rfl) (fun _ _ _ h => h) (Or.inl ⟨by rfl, ?_⟩) ?_ ?_
            rotate_left
            ·intro w'
             go_simp
             with_reducible rfl
            rotate_left
            ·simp only [Act.put, List.setIfInBounds_toArray, List.set_cons_zero, List.set_cons_succ, i64_w, i32_w]
             rfl
            refine take_ (i := 2) (N := some 49) (v := ?_) (a' := ?_) #[true, true, true, false, false, false] rfl rfl (by kernel_rfl) (fun _ _ _ h => h) (Or.inl ⟨by rfl, ?_⟩) hHeld ?_ ?_
            rotate_left
            ·rintro w' ⟨s0, s1⟩
             go_simp
             with_reducible rfl
            rotate_left
            ·simp only [Act.put, List.setIfInBounds_toArray, List.set_cons_zero, List.set_cons_succ, i64_w, i32_w]
             rfl
            refine one_ (i := 3) (N := none) #[true, true, true, true, false, false] rfl rfl (by kernel_rfl) (by decide) (fun K hK => ?_)
            have hs77 : w76.cell? ⟨gb148, 0, none⟩ = some (.int .i64 0) := (blk_cell BK148.out 0).trans rfl
            have hfs77 := blk_frozen BK148.out 0
            have hns77_1 := NB149_148.out
            have hns77_2 := NB150_148.out
            have hns77_3 := NB151_148.out
            have hns77_4 := NB152_148.out
            have hms77_1 := NB148_149.out
            have hms77_2 := NB148_150.out
            have hms77_3 := NB148_151.out
            have hms77_4 := NB148_152.out
            have hs78 : w76.cell? ⟨gb148, 1, none⟩ = some (.int .i64 0) := (blk_cell BK148.out 1).trans rfl
            have hfs78 := blk_frozen BK148.out 1
            have hns78_1 := NB149_148.out
            have hns78_2 := NB150_148.out
            have hns78_3 := NB151_148.out
            have hns78_4 := NB152_148.out
            have hms78_1 := NB148_149.out
            have hms78_2 := NB148_150.out
            have hms78_3 := NB148_151.out
            have hms78_4 := NB148_152.out
            refine skip_ (w1 := ?_) (by rfl) rfl ?_ ?_
            rotate_left
            ·go_simp
             rfl
            refine hK.out _ _ ⟨((cell_far (p := ⟨gb148, _, none⟩) NB151_148.out _).trans (((cell_far (p := ⟨gb148, _, none⟩) NB151_148.out _).trans (hHeld.1)))), ((cell_far (p := ⟨gb148, _, none⟩) NB151_148.out _).trans (((cell_far (p := ⟨gb148, _, none⟩) NB151_148.out _).trans (hHeld.2))))⟩ (fun hHeld => ?_)
            clear hK K
            refine one_ (i := 4) (N := none) #[true, true, true, true, true, false] rfl rfl (by kernel_rfl) (by decide) (fun K hK => ?_)
            have hs79 : w76.cell? ⟨gb149, 0, none⟩ = some (.int .i64 0) := (blk_cell BK149.out 0).trans rfl
            have hfs79 := blk_frozen BK149.out 0
            have hns79_0 := NB148_149.out
            have hns79_2 := NB150_149.out
            have hns79_3 := NB151_149.out
            have hns79_4 := NB152_149.out
            have hms79_0 := NB149_148.out
            have hms79_2 := NB149_150.out
            have hms79_3 := NB149_151.out
            have hms79_4 := NB149_152.out
            have hs80 : w76.cell? ⟨gb149, 1, none⟩ = some (.int .i64 0) := (blk_cell BK149.out 1).trans rfl
            have hfs80 := blk_frozen BK149.out 1
            have hns80_0 := NB148_149.out
            have hns80_2 := NB150_149.out
            have hns80_3 := NB151_149.out
            have hns80_4 := NB152_149.out
            have hms80_0 := NB149_148.out
            have hms80_2 := NB149_150.out
            have hms80_3 := NB149_151.out
            have hms80_4 := NB149_152.out
            refine skip_ (w1 := ?_) (by rfl) rfl ?_ ?_
            rotate_left
            ·go_simp
             rfl
            refine hK.out _ _ ⟨((cell_far (p := ⟨gb149, _, none⟩) NB151_149.out _).trans (((cell_far (p := ⟨gb149, _, none⟩) NB151_149.out _).trans (hHeld.1)))), ((cell_far (p := ⟨gb149, _, none⟩) NB151_149.out _).trans (((cell_far (p := ⟨gb149, _, none⟩) NB151_149.out _).trans (hHeld.2))))⟩ (fun hHeld => ?_)
            clear hK K
            refine one_ (i := 5) (N := none) #[true, true, true, true, true, true] rfl rfl (by kernel_rfl) (by decide) (fun K hK => ?_)
            have hs81 : w76.cell? ⟨gb150, 0, none⟩ = some (.int .i64 0) := (blk_cell BK150.out 0).trans rfl
            have hfs81 := blk_frozen BK150.out 0
            have hns81_0 := NB148_150.out
            have hns81_1 := NB149_150.out
            have hns81_3 := NB151_150.out
            have hns81_4 := NB152_150.out
            have hms81_0 := NB150_148.out
            have hms81_1 := NB150_149.out
            have hms81_3 := NB150_151.out
            have hms81_4 := NB150_152.out
            have hs82 : w76.cell? ⟨gb150, 1, none⟩ = some (.int .i64 0) := (blk_cell BK150.out 1).trans rfl
            have hfs82 := blk_frozen BK150.out 1
            have hns82_0 := NB148_150.out
            have hns82_1 := NB149_150.out
            have hns82_3 := NB151_150.out
            have hns82_4 := NB152_150.out
            have hms82_0 := NB150_148.out
            have hms82_1 := NB150_149.out
            have hms82_3 := NB150_151.out
            have hms82_4 := NB150_152.out
            refine skip_ (w1 := ?_) (by rfl) rfl ?_ ?_
            rotate_left
            ·go_simp
             rfl
            refine hK.out _ _ ⟨((cell_far (p := ⟨gb150, _, none⟩) NB151_150.out _).trans (((cell_far (p := ⟨gb150, _, none⟩) NB151_150.out _).trans (hHeld.1)))), ((cell_far (p := ⟨gb150, _, none⟩) NB151_150.out _).trans (((cell_far (p := ⟨gb150, _, none⟩) NB151_150.out _).trans (hHeld.2))))⟩ (fun hHeld => ?_)
            clear hK K
            refine done_ (by kernel_rfl) ?_
            try go_wp2
            refine bodyPost_ret (results_list (rs := [.cell 2 81, .cell 3 81, .cell 4 81]) rfl (by simp) (.cell gb148 81 #[.int .i64 1, .int .i64 125] (0, 0) _ rfl (by (with_reducible repeat (first | refine blk_drewN ?_ _ | refine blk_drew ?_ | refine blk_alloc ?_ _)); refine blk_far ?_ NB148_150.out _; (with_reducible repeat (first | refine blk_drewN ?_ _ | refine blk_drew ?_ | refine blk_alloc ?_ _)); refine blk_far ?_ NB148_150.out _; (with_reducible repeat (first | refine blk_drewN ?_ _ | refine blk_drew ?_ | refine blk_alloc ?_ _)); refine blk_far ?_ NB148_149.out _; (with_reducible repeat (first | refine blk_drewN ?_ _ | refine blk_drew ?_ | refine blk_alloc ?_ _)); refine blk_far ?_ NB148_149.out _; (with_reducible repeat (first | refine blk_drewN ?_ _ | refine blk_drew ?_ | refine blk_alloc ?_ _)); refine blk_put (cs := #[.int .i64 1, .int .i64 0]) ?_ 1 _ rfl; (with_reducible repeat (first | refine blk_drewN ?_ _ | refine blk_drew ?_ | refine blk_alloc ?_ _)); refine blk_put (cs := #[.int .i64 0, .int .i64 0]) ?_ 0 _ rfl; (with_reducible repeat (first | refine blk_drewN ?_ _ | refine blk_drew ?_ | refine blk_alloc ?_ _)); exact BK148.out) Try.underlying81 rfl (by kernel_rfl) (.cell gb149 81 #[.int .i64 1, .int .i64 121] (0, 0) _ rfl (by (with_reducible repeat (first | refine blk_drewN ?_ _ | refine blk_drew ?_ | refine blk_alloc ?_ _)); refine blk_far ?_ NB149_150.out _; (with_reducible repeat (first | refine blk_drewN ?_ _ | refine blk_drew ?_ | refine blk_alloc ?_ _)); refine blk_far ?_ NB149_150.out _; (with_reducible repeat (first | refine blk_drewN ?_ _ | refine blk_drew ?_ | refine blk_alloc ?_ _)); refine blk_put (cs := #[.int .i64 1, .int .i64 0]) ?_ 1 _ rfl; (with_reducible repeat (first | refine blk_drewN ?_ _ | refine blk_drew ?_ | refine blk_alloc ?_ _)); refine blk_put (cs := #[.int .i64 0, .int .i64 0]) ?_ 0 _ rfl; (with_reducible repeat (first | refine blk_drewN ?_ _ | refine blk_drew ?_ | refine blk_alloc ?_ _)); refine blk_far ?_ NB149_148.out _; (with_reducible repeat (first | refine blk_drewN ?_ _ | refine blk_drew ?_ | refine blk_alloc ?_ _)); refine blk_far ?_ NB149_148.out _; (with_reducible repeat (first | refine blk_drewN ?_ _ | refine blk_drew ?_ | refine blk_alloc ?_ _)); exact BK149.out) Try.underlying81 rfl (by kernel_rfl) (.cell gb150 81 #[.int .i64 0, .int .i64 0] (0, 0) _ rfl (by (with_reducible repeat (first | refine blk_drewN ?_ _ | refine blk_drew ?_ | refine blk_alloc ?_ _)); refine blk_put (cs := #[.int .i64 0, .int .i64 0]) ?_ 1 _ rfl; (with_reducible repeat (first | refine blk_drewN ?_ _ | refine blk_drew ?_ | refine blk_alloc ?_ _)); refine blk_put (cs := #[.int .i64 0, .int .i64 0]) ?_ 0 _ rfl; (with_reducible repeat (first | refine blk_drewN ?_ _ | refine blk_drew ?_ | refine blk_alloc ?_ _)); refine blk_far ?_ NB150_149.out _; (with_reducible repeat (first | refine blk_drewN ?_ _ | refine blk_drew ?_ | refine blk_alloc ?_ _)); refine blk_far ?_ NB150_149.out _; (with_reducible repeat (first | refine blk_drewN ?_ _ | refine blk_drew ?_ | refine blk_alloc ?_ _)); refine blk_far ?_ NB150_148.out _; (with_reducible repeat (first | refine blk_drewN ?_ _ | refine blk_drew ?_ | refine blk_alloc ?_ _)); refine blk_far ?_ NB150_148.out _; (with_reducible repeat (first | refine blk_drewN ?_ _ | refine blk_drew ?_ | refine blk_alloc ?_ _)); exact BK150.out) Try.underlying81 rfl (by kernel_rfl) .nil)))) rfl ?_
            exact ⟨by first | rfl | (simp [errW_none, errW_some] <;> rfl) | (simp [*, errW_none, errW_some] <;> rfl), bS HB.out⟩
/-! ### impl_cloneDevice: function 67 -/
def impl_cloneDevice.f (l0_0 : List Bool) (l0_1 : List Bool) (l0_2 : List Int) (l0_3 : List Int) : Option (List Bool × List Bool × List Int × List Int) := (slices_Clone_bool_bool.f l0_0).bind fun t130 => ((slices_Clone_bool_bool.f l0_1).bind fun t133 => ((slices_Clone_int_int.f l0_2).bind fun t136 => ((slices_Clone_int_int.f l0_3).bind fun t139 => (some (t130, t133, t136, t139)))))
def impl_cloneDevice.T1 : Bool × List (List Nat × List Nat) := (true, [([], []), ([0], [0]), ([1], [1]), ([], []), ([3], [3]), ([4, 2], [4]), ([], []), ([6], [6]), ([7, 5], [7]), ([], []), ([9], [9]), ([10, 8], [10]), ([2, 5, 8, 11], [2, 5, 8, 11]), ([12, 11, 0, 1, 2, 3, 4, 5, 6, 7, 8, 9, 10, 11, 12], [12])])
def impl_cloneDevice.B1 : List Nat := [0, 1, 3, 0, 8, 31, 0, 64, 255, 0, 512, 2047, 4095, 8191]
theorem impl_cloneDevice.tab1 : rtab .any (opsOf Try.f67 1) = impl_cloneDevice.T1 := by kernel_rfl
theorem impl_cloneDevice.bits1 : waitsOk impl_cloneDevice.T1.2 impl_cloneDevice.B1 = true := by kernel_rfl
set_option maxHeartbeats 8000000 in
set_option maxRecDepth 100000 in
theorem impl_cloneDevice.calls (A0_0 : Option Addr) (c0_0 : Nat) (l0_0 : List Bool) (A0_1 : Option Addr) (c0_1 : Nat) (l0_1 : List Bool) (A0_2 : Option Addr) (c0_2 : Nat) (l0_2 : List Int) (A0_3 : Option Addr) (c0_3 : Nat) (l0_3 : List Int) (r1 : List Bool) (r2 : List Bool) (r3 : List Int) (r4 : List Int) (w : World) (hr0_0 : Kd.C Kd.bool w A0_0 l0_0.length l0_0) (hc0_0 : l0_0.length ≤ c0_0) (hr0_1 : Kd.C Kd.bool w A0_1 l0_1.length l0_1) (hc0_1 : l0_1.length ≤ c0_1) (hr0_2 : Kd.C (Kd.int .i64) w A0_2 l0_2.length l0_2) (hc0_2 : l0_2.length ≤ c0_2) (hr0_3 : Kd.C (Kd.int .i64) w A0_3 l0_3.length l0_3) (hc0_3 : l0_3.length ≤ c0_3) (h : impl_cloneDevice.f l0_0 l0_1 l0_2 l0_3 = some (r1, r2, r3, r4)) :
  Calls Try.prog 67 #[.agg #[.slice A0_0 l0_0.length c0_0, .slice A0_1 l0_1.length c0_1, .slice A0_2 l0_2.length c0_2, .slice A0_3 l0_3.length c0_3]] w fun e w' => ∃ v0_ v1_ v2_ v3_ : Value, e = .returned (.agg #[v0_, v1_, v2_, v3_]) ∧ Kd.R Kd.bool 4 w' w.heap.size (fun k_ => some k_ ≠ (v1_ : Value).ownBlock) v0_ r1 ∧ Kd.R Kd.bool 4 w' w.heap.size (fun k_ => some k_ ≠ (v0_ : Value).ownBlock) v1_ r2 ∧ Kd.R (Kd.int .i64) 3 w' w.heap.size (fun k_ => some k_ ≠ (v3_ : Value).ownBlock) v2_ r3 ∧ Kd.R (Kd.int .i64) 3 w' w.heap.size (fun k_ => some k_ ≠ (v2_ : Value).ownBlock) v3_ r4 ∧ Below w.heap.size w w' := by
 have hu43 := Try.underlying43
 have HR0_0 := aM hr0_0
 have HC0_0 := aM hc0_0
 clear hr0_0 hc0_0
 have HR0_1 := aM hr0_1
 have HC0_1 := aM hc0_1
 clear hr0_1 hc0_1
 have HR0_2 := aM hr0_2
 have HC0_2 := aM hc0_2
 clear hr0_2 hc0_2
 have HR0_3 := aM hr0_3
 have HC0_3 := aM hc0_3
 clear hr0_3 hc0_3
 have HB := aM (Below.refl w.heap.size w)
 have H : ((slices_Clone_bool_bool.f l0_0).bind fun t130 => ((slices_Clone_bool_bool.f l0_1).bind fun t133 => ((slices_Clone_int_int.f l0_2).bind fun t136 => ((slices_Clone_int_int.f l0_3).bind fun t139 => (some (t130, t133, t136, t139)))))) = some (r1, r2, r3, r4) := h
 clear h
 replace H := Option.bind_eq_some_iff.mp H
 obtain ⟨t130, A20, H⟩ := H
 replace H : ((slices_Clone_bool_bool.f l0_1).bind fun t133 => ((slices_Clone_int_int.f l0_2).bind fun t136 => ((slices_Clone_int_int.f l0_3).bind fun t139 => (some (t130, t133, t136, t139))))) = some (r1, r2, r3, r4) := H
 have A2 := aM A20
 clear A20
 replace H := Option.bind_eq_some_iff.mp H
 obtain ⟨t133, A30, H⟩ := H
 replace H : ((slices_Clone_int_int.f l0_2).bind fun t136 => ((slices_Clone_int_int.f l0_3).bind fun t139 => (some (t130, t133, t136, t139)))) = some (r1, r2, r3, r4) := H
 have A3 := aM A30
 clear A30
 replace H := Option.bind_eq_some_iff.mp H
 obtain ⟨t136, A40, H⟩ := H
 replace H : ((slices_Clone_int_int.f l0_3).bind fun t139 => (some (t130, t133, t136, t139))) = some (r1, r2, r3, r4) := H
 have A4 := aM A40
 clear A40
 replace H := Option.bind_eq_some_iff.mp H
 obtain ⟨t139, A50, H⟩ := H
 replace H : (some (t130, t133, t136, t139)) = some (r1, r2, r3, r4) := H
 have A5 := aM A50
 clear A50
 simp only [Option.some.injEq, Prod.mk.injEq] at H
 obtain ⟨rfl, rfl, rfl, rfl⟩ := H
 go_enter Try.func67, Try.ntmps67
 try go_wp2_with (first | ((with_reducible refine gate_dst (N := 1) rfl ?_); refine box_event ?hg (N := 1) ?hd (cs := #[.slice A0_0 l0_0.length c0_0, .slice A0_1 l0_1.length c0_1, .slice A0_2 l0_2.length c0_2, .slice A0_3 l0_3.length c0_3]) (t := 43) ?hr ?_; (case hd => rfl); (case hg => rfl); (case hr => first | (go_simp; done) | (go_simp; rfl)); intro gb128 hg w6 hbox hb; have _ := aM (below_step (bS HB.out) hb); have _ := aM (hbox); have _ := aM (leG hg (bS HB.out)); have _ := aM (leG hg (bS HB.out)); clear HB; rename_i HB BK128 GW128 GE128; clear hb hbox hg) | ((with_reducible refine gate_dst (N := 2) rfl ?_); refine box_event ?hg (N := 2) ?hd (cs := #[.slice none 0 0, .slice none 0 0, .slice none 0 0, .slice none 0 0]) (t := 43) ?hr ?_; (case hd => rfl); (case hg => rfl); (case hr => first | (go_simp; done) | (go_simp; rfl)); intro gb129 hg w7 hbox hb; have _ := aM (kB BK128.out hb); have _ := aM (below_step (bS HB.out) hb); have _ := aM (hbox); have _ := aM (leG hg (bS HB.out)); have _ := aM (leG hg (bS HB.out)); have _ := aM (neL hg (kA BK128.out)); have _ := aM (neG hg (kA BK128.out)); clear BK128 HB; rename_i BK128 HB BK129 GW129 GE129 NB128_129 NB129_128; clear hb hbox hg))
 have n0_ := aM (blk_drew BK128.out)
 have n1_ := aM (blk_drew BK129.out)
 have n2_ := aM (below_drew1 HB.out)
 clear BK128
 clear BK129
 clear HB
 have BK128 := n0_
 have BK129 := n1_
 have HB := n2_
 clear n0_ n1_ n2_
 refine start_ (n := 14) (S := fun w' => w'.cell? ⟨gb128, 0, none⟩ = some (.slice A0_0 l0_0.length c0_0) ∧ w'.cell? ⟨gb128, 1, none⟩ = some (.slice A0_1 l0_1.length c0_1) ∧ w'.cell? ⟨gb128, 2, none⟩ = some (.slice A0_2 l0_2.length c0_2) ∧ w'.cell? ⟨gb128, 3, none⟩ = some (.slice A0_3 l0_3.length c0_3)) (ds := []) #[false, false, false, false, false, false, false, false, false, false, false, false, false, false] (by kernel_rfl) rfl rfl ⟨(blk_cell BK128.out 0).trans rfl, (blk_cell BK128.out 1).trans rfl, (blk_cell BK128.out 2).trans rfl, (blk_cell BK128.out 3).trans rfl⟩ (fun hHeld => ?_); refine with_tabW impl_cloneDevice.tab1 impl_cloneDevice.bits1 (fun HT_ HW_ => ?_)
 generalize w7.drew = w8 at BK128 BK129 HB hHeld ⊢
 refine pure_ (i := 0) (N := some 3) (v := ?_) (a' := ?_) #[true, false, false, false, false, false, false, false, false, false, false, false, false, false] rfl rfl (any_of HT_.out (by kernel_rfl)) (fun _ _ _ h => h) (Or.inl ⟨by rfl, ?_⟩) ?_ ?_
 rotate_left
 ·intro w'
  go_simp
  with_reducible rfl
 rotate_left
 ·simp only [Act.put, List.setIfInBounds_toArray, List.set_cons_zero, List.set_cons_succ, i64_w, i32_w]
  rfl
 refine pure_ (i := 3) (N := some 6) (v := ?_) (a' := ?_) #[true, false, false, true, false, false, false, false, false, false, false, false, false, false] rfl rfl (any_of HT_.out (by kernel_rfl)) (fun _ _ _ h => h) (Or.inl ⟨by rfl, ?_⟩) ?_ ?_
 rotate_left
 ·intro w'
  go_simp
  with_reducible rfl
 rotate_left
 ·simp only [Act.put, List.setIfInBounds_toArray, List.set_cons_zero, List.set_cons_succ, i64_w, i32_w]
  rfl
 refine pure_ (i := 6) (N := some 9) (v := ?_) (a' := ?_) #[true, false, false, true, false, false, true, false, false, false, false, false, false, false] rfl rfl (any_of HT_.out (by kernel_rfl)) (fun _ _ _ h => h) (Or.inl ⟨by rfl, ?_⟩) ?_ ?_
 rotate_left
 ·intro w'
  go_simp
  with_reducible rfl
 rotate_left
 ·simp only [Act.put, List.setIfInBounds_toArray, List.set_cons_zero, List.set_cons_succ, i64_w, i32_w]
  rfl
 refine pure_ (i := 9) (N := some 12) (v := ?_) (a' := ?_) #[true, false, false, true, false, false, true, false, false, true, false, false, false, false] rfl rfl (any_of HT_.out (by kernel_rfl)) (fun _ _ _ h => h) (Or.inl ⟨by rfl, ?_⟩) ?_ ?_
 rotate_left
 ·intro w'
  go_simp
  with_reducible rfl
 rotate_left
 ·simp only [Act.put, List.setIfInBounds_toArray, List.set_cons_zero, List.set_cons_succ, i64_w, i32_w]
  rfl
 refine take_ (i := 1) (N := some 4) (v := ?_) (a' := ?_) #[true, true, false, true, false, false, true, false, false, true, false, false, false, false] rfl rfl (take_ofW HT_.out HW_.out (by kernel_rfl)) (fun _ _ _ h => h) (Or.inl ⟨by rfl, ?_⟩) hHeld ?_ ?_
 rotate_left
 ·rintro w' ⟨s0, s1, s2, s3⟩
  go_simp
  with_reducible rfl
 rotate_left
 ·simp only [Act.put, List.setIfInBounds_toArray, List.set_cons_zero, List.set_cons_succ, i64_w, i32_w]
  rfl
 refine take_ (i := 4) (N := some 7) (v := ?_) (a' := ?_) #[true, true, false, true, true, false, true, false, false, true, false, false, false, false] rfl rfl (take_ofW HT_.out HW_.out (by kernel_rfl)) (fun _ _ _ h => h) (Or.inl ⟨by rfl, ?_⟩) hHeld ?_ ?_
 rotate_left
 ·rintro w' ⟨s0, s1, s2, s3⟩
  go_simp
  with_reducible rfl
 rotate_left
 ·simp only [Act.put, List.setIfInBounds_toArray, List.set_cons_zero, List.set_cons_succ, i64_w, i32_w]
  rfl
 refine take_ (i := 7) (N := some 10) (v := ?_) (a' := ?_) #[true, true, false, true, true, false, true, true, false, true, false, false, false, false] rfl rfl (take_ofW HT_.out HW_.out (by kernel_rfl)) (fun _ _ _ h => h) (Or.inl ⟨by rfl, ?_⟩) hHeld ?_ ?_
 rotate_left
 ·rintro w' ⟨s0, s1, s2, s3⟩
  go_simp
  with_reducible rfl
 rotate_left
 ·simp only [Act.put, List.setIfInBounds_toArray, List.set_cons_zero, List.set_cons_succ, i64_w, i32_w]
  rfl
 refine take_ (i := 10) (N := some 13) (v := ?_) (a' := ?_) #[true, true, false, true, true, false, true, true, false, true, true, false, false, false] rfl rfl (take_ofW HT_.out HW_.out (by kernel_rfl)) (fun _ _ _ h => h) (Or.inl ⟨by rfl, ?_⟩) hHeld ?_ ?_
 rotate_left
 ·rintro w' ⟨s0, s1, s2, s3⟩
  go_simp
  with_reducible rfl
 rotate_left
 ·simp only [Act.put, List.setIfInBounds_toArray, List.set_cons_zero, List.set_cons_succ, i64_w, i32_w]
  rfl
 refine one_ (i := 2) (N := some 5) #[true, true, true, true, true, false, true, true, false, true, true, false, false, false] rfl rfl (one_of HT_.out (by kernel_rfl)) (by decide) (fun K hK => ?_)
 refine goes_ Try.func91 (by kernel_rfl) rfl #[.slice A0_0 l0_0.length c0_0] (by rfl) rfl rfl (by (try simp only [List.map_toArray, List.map_cons, List.map_nil]); first | done | rfl | (simp only [List.length_drop, List.length_take]; rfl)) ?_
 with_reducible refine (slices_Clone_bool_bool.calls _ _ l0_0 t130 _ ?side1 ?side2 A2.out).mono ?_
 (case side1 => exact cB HR0_0.out HB.out)
 (case side2 => exact HC0_0.out)
 rintro e w9 ⟨v131, rfl, ho0, hb⟩
 refine ⟨_, rfl, ?_⟩
 have n0_ := aM (Kd.R_lower ho0 (below_size (bS HB.out)))
 have n1_ := aM (kB BK128.out hb)
 have n2_ := aM (kB BK129.out hb)
 have n3_ := aM (below_step (bS HB.out) hb)
 clear BK128
 clear BK129
 clear HB
 have HO132 := n0_
 have BK128 := n1_
 have BK129 := n2_
 have HB := n3_
 clear n0_ n1_ n2_ n3_
 (try clear hb)
 (try clear hb2)
 (try clear hk)
 (try clear hi)
 (try clear ho0)
 refine hK.out _ _ ⟨(blk_cell BK128.out 0).trans rfl, (blk_cell BK128.out 1).trans rfl, (blk_cell BK128.out 2).trans rfl, (blk_cell BK128.out 3).trans rfl⟩ (fun hHeld => ?_)
 clear hK K
 refine norm_ (a' := ?_) ?_ ?_
 rotate_left
 ·show Act.put _ (some 5) _ = _
  simp only [Act.put, List.setIfInBounds_toArray, List.set_cons_zero, List.set_cons_succ, i64_w, i32_w]
  rfl
 refine one_ (i := 5) (N := some 8) #[true, true, true, true, true, true, true, true, false, true, true, false, false, false] rfl rfl (one_of HT_.out (by kernel_rfl)) (by decide) (fun K hK => ?_)
 refine goes_ Try.func91 (by kernel_rfl) rfl #[.slice A0_1 l0_1.length c0_1] (by rfl) rfl rfl (by (try simp only [List.map_toArray, List.map_cons, List.map_nil]); first | done | rfl | (simp only [List.length_drop, List.length_take]; rfl)) ?_
 with_reducible refine (slices_Clone_bool_bool.calls _ _ l0_1 t133 _ ?side1 ?side2 A3.out).mono ?_
 (case side1 => exact cB HR0_1.out HB.out)
 (case side2 => exact HC0_1.out)
 rintro e w10 ⟨v134, rfl, ho0, hb⟩
 refine ⟨_, rfl, ?_⟩
 have n0_ := aM (Kd.R_elder' (rA HO132.out) (Kd.R_base ho0) hb)
 have n1_ := aM (Kd.R_lower (Kd.R_new' ho0 (Kd.R_lt (rA HO132.out))) (below_size (bS HB.out)))
 have n2_ := aM (kB BK128.out hb)
 have n3_ := aM (kB BK129.out hb)
 have n4_ := aM (below_step (bS HB.out) hb)
 clear HO132
 clear BK128
 clear BK129
 clear HB
 have HO132 := n0_
 have HO135 := n1_
 have BK128 := n2_
 have BK129 := n3_
 have HB := n4_
 clear n0_ n1_ n2_ n3_ n4_
 (try clear hb)
 (try clear hb2)
 (try clear hk)
 (try clear hi)
 (try clear ho0)
 refine hK.out _ _ ⟨(blk_cell BK128.out 0).trans rfl, (blk_cell BK128.out 1).trans rfl, (blk_cell BK128.out 2).trans rfl, (blk_cell BK128.out 3).trans rfl⟩ (fun hHeld => ?_)
 clear hK K
 refine norm_ (a' := ?_) ?_ ?_
 rotate_left
 ·show Act.put _ (some 8) _ = _
  simp only [Act.put, List.setIfInBounds_toArray, List.set_cons_zero, List.set_cons_succ, i64_w, i32_w]
  rfl
 refine one_ (i := 8) (N := some 11) #[true, true, true, true, true, true, true, true, true, true, true, false, false, false] rfl rfl (one_of HT_.out (by kernel_rfl)) (by decide) (fun K hK => ?_)
 refine goes_ Try.func92 (by kernel_rfl) rfl #[.slice A0_2 l0_2.length c0_2] (by rfl) rfl rfl (by (try simp only [List.map_toArray, List.map_cons, List.map_nil]); first | done | rfl | (simp only [List.length_drop, List.length_take]; rfl)) ?_
 with_reducible refine (slices_Clone_int_int.calls _ _ l0_2 t136 _ ?side1 ?side2 A4.out).mono ?_
 (case side1 => exact cB HR0_2.out HB.out)
 (case side2 => exact HC0_2.out)
 rintro e w11 ⟨v137, rfl, ho0, hb⟩
 refine ⟨_, rfl, ?_⟩
 have n0_ := aM (rB HO132.out hb)
 have n1_ := aM (rB HO135.out hb)
 have n2_ := aM (Kd.R_lower ho0 (below_size (bS HB.out)))
 have n3_ := aM (kB BK128.out hb)
 have n4_ := aM (kB BK129.out hb)
 have n5_ := aM (below_step (bS HB.out) hb)
 clear HO132
 clear HO135
 clear BK128
 clear BK129
 clear HB
 have HO132 := n0_
 have HO135 := n1_
 have HO138 := n2_
 have BK128 := n3_
 have BK129 := n4_
 have HB := n5_
 clear n0_ n1_ n2_ n3_ n4_ n5_
 (try clear hb)
 (try clear hb2)
 (try clear hk)
 (try clear hi)
 (try clear ho0)
 refine hK.out _ _ ⟨(blk_cell BK128.out 0).trans rfl, (blk_cell BK128.out 1).trans rfl, (blk_cell BK128.out 2).trans rfl, (blk_cell BK128.out 3).trans rfl⟩ (fun hHeld => ?_)
 clear hK K
 refine norm_ (a' := ?_) ?_ ?_
 rotate_left
 ·show Act.put _ (some 11) _ = _
  simp only [Act.put, List.setIfInBounds_toArray, List.set_cons_zero, List.set_cons_succ, i64_w, i32_w]
  rfl
 refine one_ (i := 11) (N := some 14) #[true, true, true, true, true, true, true, true, true, true, true, true, false, false] rfl rfl (one_of HT_.out (by kernel_rfl)) (by decide) (fun K hK => ?_)
 refine goes_ Try.func92 (by kernel_rfl) rfl #[.slice A0_3 l0_3.length c0_3] (by rfl) rfl rfl (by (try simp only [List.map_toArray, List.map_cons, List.map_nil]); first | done | rfl | (simp only [List.length_drop, List.length_take]; rfl)) ?_
 with_reducible refine (slices_Clone_int_int.calls _ _ l0_3 t139 _ ?side1 ?side2 A5.out).mono ?_
 (case side1 => exact cB HR0_3.out HB.out)
 (case side2 => exact HC0_3.out)
 rintro e w12 ⟨v140, rfl, ho0, hb⟩
 refine ⟨_, rfl, ?_⟩
 have n0_ := aM (rB HO132.out hb)
 have n1_ := aM (rB HO135.out hb)
 have n2_ := aM (Kd.R_elder' (rA HO138.out) (Kd.R_base ho0) hb)
 have n3_ := aM (Kd.R_lower (Kd.R_new' ho0 (Kd.R_lt (rA HO138.out))) (below_size (bS HB.out)))
 have n4_ := aM (kB BK128.out hb)
 have n5_ := aM (kB BK129.out hb)
 have n6_ := aM (below_step (bS HB.out) hb)
 clear HO132
 clear HO135
 clear HO138
 clear BK128
 clear BK129
 clear HB
 have HO132 := n0_
 have HO135 := n1_
 have HO138 := n2_
 have HO141 := n3_
 have BK128 := n4_
 have BK129 := n5_
 have HB := n6_
 clear n0_ n1_ n2_ n3_ n4_ n5_ n6_
 (try clear hb)
 (try clear hb2)
 (try clear hk)
 (try clear hi)
 (try clear ho0)
 obtain ⟨Ao13, co13, eo13⟩ := Kd.R_slice HO141.out
 (first | subst eo13 | (injection eo13 with f1_ f2_ f3_; have f4_ := f1_.symm; have f5_ := f3_.symm; clear f1_ f2_ f3_; subst f4_; subst f5_))
 obtain ⟨Ao14, co14, eo14⟩ := Kd.R_slice HO138.out
 (first | subst eo14 | (injection eo14 with f1_ f2_ f3_; have f4_ := f1_.symm; have f5_ := f3_.symm; clear f1_ f2_ f3_; subst f4_; subst f5_))
 obtain ⟨Ao15, co15, eo15⟩ := Kd.R_slice HO135.out
 (first | subst eo15 | (injection eo15 with f1_ f2_ f3_; have f4_ := f1_.symm; have f5_ := f3_.symm; clear f1_ f2_ f3_; subst f4_; subst f5_))
 obtain ⟨Ao16, co16, eo16⟩ := Kd.R_slice HO132.out
 (first | subst eo16 | (injection eo16 with f1_ f2_ f3_; have f4_ := f1_.symm; have f5_ := f3_.symm; clear f1_ f2_ f3_; subst f4_; subst f5_))
 refine hK.out _ _ ⟨(blk_cell BK128.out 0).trans rfl, (blk_cell BK128.out 1).trans rfl, (blk_cell BK128.out 2).trans rfl, (blk_cell BK128.out 3).trans rfl⟩ (fun hHeld => ?_)
 clear hK K
 refine norm_ (a' := ?_) ?_ ?_
 rotate_left
 ·show Act.put _ (some 14) _ = _
  simp only [Act.put, List.setIfInBounds_toArray, List.set_cons_zero, List.set_cons_succ, i64_w, i32_w]
  rfl
 refine pure_ (i := 12) (N := some 15) (v := ?_) (a' := ?_) #[true, true, true, true, true, true, true, true, true, true, true, true, true, false] rfl rfl (any_of HT_.out (by kernel_rfl)) (fun _ _ _ h => h) (Or.inl ⟨by rfl, ?_⟩) ?_ ?_
 rotate_left
 ·intro w'
  go_simp
  with_reducible rfl
 rotate_left
 ·simp only [Act.put, List.setIfInBounds_toArray, List.set_cons_zero, List.set_cons_succ, i64_w, i32_w]
  rfl
 refine one_ (i := 13) (N := none) #[true, true, true, true, true, true, true, true, true, true, true, true, true, true] rfl rfl (one_of HT_.out (by kernel_rfl)) (by decide) (fun K hK => ?_)
 have hs17 : w12.cell? ⟨gb129, 0, none⟩ = some (.slice none 0 0) := (blk_cell BK129.out 0).trans rfl
 have hfs17 := blk_frozen BK129.out 0
 have hns17_0 := NB128_129.out
 have hms17_0 := NB129_128.out
 have hs18 : w12.cell? ⟨gb129, 1, none⟩ = some (.slice none 0 0) := (blk_cell BK129.out 1).trans rfl
 have hfs18 := blk_frozen BK129.out 1
 have hns18_0 := NB128_129.out
 have hms18_0 := NB129_128.out
 have hs19 : w12.cell? ⟨gb129, 2, none⟩ = some (.slice none 0 0) := (blk_cell BK129.out 2).trans rfl
 have hfs19 := blk_frozen BK129.out 2
 have hns19_0 := NB128_129.out
 have hms19_0 := NB129_128.out
 have hs20 : w12.cell? ⟨gb129, 3, none⟩ = some (.slice none 0 0) := (blk_cell BK129.out 3).trans rfl
 have hfs20 := blk_frozen BK129.out 3
 have hns20_0 := NB128_129.out
 have hms20_0 := NB129_128.out
 refine skip_ (w1 := ?_) (by rfl) rfl ?_ ?_
 rotate_left
 ·go_simp
  rfl
 refine hK.out _ _ ⟨((cell_far (p := ⟨gb129, _, none⟩) NB128_129.out _).trans (((cell_far (p := ⟨gb129, _, none⟩) NB128_129.out _).trans (((cell_far (p := ⟨gb129, _, none⟩) NB128_129.out _).trans (((cell_far (p := ⟨gb129, _, none⟩) NB128_129.out _).trans (hHeld.1)))))))), ((cell_far (p := ⟨gb129, _, none⟩) NB128_129.out _).trans (((cell_far (p := ⟨gb129, _, none⟩) NB128_129.out _).trans (((cell_far (p := ⟨gb129, _, none⟩) NB128_129.out _).trans (((cell_far (p := ⟨gb129, _, none⟩) NB128_129.out _).trans (hHeld.2.1)))))))), ((cell_far (p := ⟨gb129, _, none⟩) NB128_129.out _).trans (((cell_far (p := ⟨gb129, _, none⟩) NB128_129.out _).trans (((cell_far (p := ⟨gb129, _, none⟩) NB128_129.out _).trans (((cell_far (p := ⟨gb129, _, none⟩) NB128_129.out _).trans (hHeld.2.2.1)))))))), ((cell_far (p := ⟨gb129, _, none⟩) NB128_129.out _).trans (((cell_far (p := ⟨gb129, _, none⟩) NB128_129.out _).trans (((cell_far (p := ⟨gb129, _, none⟩) NB128_129.out _).trans (((cell_far (p := ⟨gb129, _, none⟩) NB128_129.out _).trans (hHeld.2.2.2))))))))⟩ (fun hHeld => ?_)
 clear hK K
 refine done_ (done_of HT_.out (by kernel_rfl)) ?_
 try go_wp2
 refine bodyPost_ret (results_cell_row rfl _ _ gb129 43 #[.slice Ao16 t130.length co16, .slice Ao15 t133.length co15, .slice Ao14 t136.length co14, .slice Ao13 t139.length co13] (0, 0) _ rfl (kP4 BK129.out) Try.underlying43 rfl (by kernel_rfl)) rfl ?_
 exact ⟨_, _, _, _, by first | rfl | (simp [errW_none, errW_some] <;> rfl) | (simp [*, errW_none, errW_some] <;> rfl), by (with_reducible repeat (first | apply Kd.R_alloc | apply Kd.R_drewN | apply Kd.R_drew)); exact Kd.R_mono (Kd.R_far (p := ⟨gb129, 3, none⟩) (Kd.R_far (p := ⟨gb129, 2, none⟩) (Kd.R_far (p := ⟨gb129, 1, none⟩) (Kd.R_far (p := ⟨gb129, 0, none⟩) (Kd.R_types HO132.out BK129.out (by decide)) (fun _ hk => hk.2) (.slice Ao16 t130.length co16)) (fun _ hk => hk.2) (.slice Ao15 t133.length co15)) (fun _ hk => hk.2) (.slice Ao14 t136.length co14)) (fun _ hk => hk.2) (.slice Ao13 t139.length co13)) (fun _ hk => hk.1.2), by (with_reducible repeat (first | apply Kd.R_alloc | apply Kd.R_drewN | apply Kd.R_drew)); exact Kd.R_mono (Kd.R_far (p := ⟨gb129, 3, none⟩) (Kd.R_far (p := ⟨gb129, 2, none⟩) (Kd.R_far (p := ⟨gb129, 1, none⟩) (Kd.R_far (p := ⟨gb129, 0, none⟩) (Kd.R_types HO135.out BK129.out (by decide)) (fun _ hk => hk.2) (.slice Ao16 t130.length co16)) (fun _ hk => hk.2) (.slice Ao15 t133.length co15)) (fun _ hk => hk.2) (.slice Ao14 t136.length co14)) (fun _ hk => hk.2) (.slice Ao13 t139.length co13)) (fun _ hk => hk.1.2), by (with_reducible repeat (first | apply Kd.R_alloc | apply Kd.R_drewN | apply Kd.R_drew)); exact Kd.R_mono (Kd.R_far (p := ⟨gb129, 3, none⟩) (Kd.R_far (p := ⟨gb129, 2, none⟩) (Kd.R_far (p := ⟨gb129, 1, none⟩) (Kd.R_far (p := ⟨gb129, 0, none⟩) (Kd.R_types HO138.out BK129.out (by decide)) (fun _ hk => hk.2) (.slice Ao16 t130.length co16)) (fun _ hk => hk.2) (.slice Ao15 t133.length co15)) (fun _ hk => hk.2) (.slice Ao14 t136.length co14)) (fun _ hk => hk.2) (.slice Ao13 t139.length co13)) (fun _ hk => hk.1.2), by (with_reducible repeat (first | apply Kd.R_alloc | apply Kd.R_drewN | apply Kd.R_drew)); exact Kd.R_mono (Kd.R_far (p := ⟨gb129, 3, none⟩) (Kd.R_far (p := ⟨gb129, 2, none⟩) (Kd.R_far (p := ⟨gb129, 1, none⟩) (Kd.R_far (p := ⟨gb129, 0, none⟩) (Kd.R_types HO141.out BK129.out (by decide)) (fun _ hk => hk.2) (.slice Ao16 t130.length co16)) (fun _ hk => hk.2) (.slice Ao15 t133.length co15)) (fun _ hk => hk.2) (.slice Ao14 t136.length co14)) (fun _ hk => hk.2) (.slice Ao13 t139.length co13)) (fun _ hk => hk.1.2), bS HB.out⟩
/-! ### impl_DeviceOk: function 68 -/
def impl_DeviceOk.f (l0_0 : List Bool) (l0_1 : List Bool) (l0_2 : List Int) (l0_3 : List Int) : Option (Bool) := if (l0_0.length : Int) ≤ 64 then (if (l0_1.length : Int) ≤ 64 then (if (l0_2.length : Int) ≤ 64 then (if (l0_3.length : Int) ≤ 64 then ((impl_allWords.f l0_2).bind fun t143 => (if t143 = true then ((impl_allWords.f l0_3).bind fun t144 => (some t144)) else (some false))) else (some false)) else (some false)) else (some false)) else (some false)
set_option maxHeartbeats 8000000 in
set_option maxRecDepth 100000 in
theorem impl_DeviceOk.calls (A0_0 : Option Addr) (c0_0 : Nat) (l0_0 : List Bool) (A0_1 : Option Addr) (c0_1 : Nat) (l0_1 : List Bool) (A0_2 : Option Addr) (c0_2 : Nat) (l0_2 : List Int) (A0_3 : Option Addr) (c0_3 : Nat) (l0_3 : List Int) (r : Bool) (w : World) (hr0_0 : Kd.C Kd.bool w A0_0 l0_0.length l0_0) (hc0_0 : l0_0.length ≤ c0_0) (hr0_1 : Kd.C Kd.bool w A0_1 l0_1.length l0_1) (hc0_1 : l0_1.length ≤ c0_1) (hr0_2 : Kd.C (Kd.int .i64) w A0_2 l0_2.length l0_2) (hc0_2 : l0_2.length ≤ c0_2) (hr0_3 : Kd.C (Kd.int .i64) w A0_3 l0_3.length l0_3) (hc0_3 : l0_3.length ≤ c0_3) (h : impl_DeviceOk.f l0_0 l0_1 l0_2 l0_3 = some r) :
  Calls Try.prog 68 #[.agg #[.slice A0_0 l0_0.length c0_0, .slice A0_1 l0_1.length c0_1, .slice A0_2 l0_2.length c0_2, .slice A0_3 l0_3.length c0_3]] w fun e w' => e = .returned (.bool r) ∧ Below w.heap.size w w' := by
 have hu43 := Try.underlying43
 have HR0_0 := aM hr0_0
 have HC0_0 := aM hc0_0
 clear hr0_0 hc0_0
 have HR0_1 := aM hr0_1
 have HC0_1 := aM hc0_1
 clear hr0_1 hc0_1
 have HR0_2 := aM hr0_2
 have HC0_2 := aM hc0_2
 clear hr0_2 hc0_2
 have HR0_3 := aM hr0_3
 have HC0_3 := aM hc0_3
 clear hr0_3 hc0_3
 have HB := aM (Below.refl w.heap.size w)
 have H : (if (l0_0.length : Int) ≤ 64 then (if (l0_1.length : Int) ≤ 64 then (if (l0_2.length : Int) ≤ 64 then (if (l0_3.length : Int) ≤ 64 then ((impl_allWords.f l0_2).bind fun t143 => (if t143 = true then ((impl_allWords.f l0_3).bind fun t144 => (some t144)) else (some false))) else (some false)) else (some false)) else (some false)) else (some false)) = some r := h
 clear h
 by_cases c2 : (l0_0.length : Int) ≤ 64
 ·rw [if_pos c2] at H
  have c2b0 : decide ((l0_0.length : Int) ≤ 64) = true := decide_eq_true c2
  have c2b1 : decide (l0_0.length ≤ 64) = true := decide_eq_true (by omega)
  clear c2
  by_cases c3 : (l0_1.length : Int) ≤ 64
  ·rw [if_pos c3] at H
   have c3b0 : decide ((l0_1.length : Int) ≤ 64) = true := decide_eq_true c3
   have c3b1 : decide (l0_1.length ≤ 64) = true := decide_eq_true (by omega)
   clear c3
   by_cases c4 : (l0_2.length : Int) ≤ 64
   ·rw [if_pos c4] at H
    have c4b0 : decide ((l0_2.length : Int) ≤ 64) = true := decide_eq_true c4
    have c4b1 : decide (l0_2.length ≤ 64) = true := decide_eq_true (by omega)
    clear c4
    by_cases c5 : (l0_3.length : Int) ≤ 64
    ·rw [if_pos c5] at H
     have c5b0 : decide ((l0_3.length : Int) ≤ 64) = true := decide_eq_true c5
     have c5b1 : decide (l0_3.length ≤ 64) = true := decide_eq_true (by omega)
     clear c5
     replace H := Option.bind_eq_some_iff.mp H
     obtain ⟨t143, A60, H⟩ := H
     replace H : (if t143 = true then ((impl_allWords.f l0_3).bind fun t144 => (some t144)) else (some false)) = some r := H
     have A6 := aM A60
     clear A60
     by_cases c7 : t143 = true
     ·subst c7
      have H1 : ((impl_allWords.f l0_3).bind fun t144 => (some t144)) = some r := by rw [if_pos rfl] at H; exact H
      clear H
      have H := H1
      clear H1
      replace H := Option.bind_eq_some_iff.mp H
      obtain ⟨t144, A80, H⟩ := H
      replace H : (some t144) = some r := H
      have A8 := aM A80
      clear A80
      obtain rfl := Option.some.inj H
      go_enter Try.func68, Try.ntmps68
      go_wp2_with (first | ((with_reducible refine gate_dst (N := 1) rfl ?_); (try (refine gate_guard (by rfl) ?_; dsimp only)); refine box_event ?hg (N := 1) ?hd (cs := #[.slice A0_0 l0_0.length c0_0, .slice A0_1 l0_1.length c0_1, .slice A0_2 l0_2.length c0_2, .slice A0_3 l0_3.length c0_3]) (t := 43) ?hr ?_; (case hd => rfl); (case hg => rfl); (case hr => first | (go_simp; done) | (go_simp; rfl)); intro gb142 hg w9 hbox hb; have _ := aM (below_step (bS HB.out) hb); have _ := aM (hbox); have _ := aM (leG hg (bS HB.out)); have _ := aM (leG hg (bS HB.out)); clear HB; rename_i HB BK142 GW142 GE142; clear hb hbox hg; obtain ⟨hcz10_0, hfz10_0, hcz10_1, hfz10_1, hcz10_2, hfz10_2, hcz10_3, hfz10_3⟩ := bk4 BK142.out) | (go_at_call 63; (with_reducible refine (impl_allWords.calls _ _ l0_2 true _ ?side1 ?side2 A6.out).mono ?_); (case side1 => exact cB HR0_2.out HB.out); (case side2 => exact HC0_2.out); rintro e w' ⟨rfl, ⟨nd, rfl⟩⟩) | (go_at_call 63; (with_reducible refine (impl_allWords.calls _ _ l0_3 t144 _ ?side1 ?side2 A8.out).mono ?_); (case side1 => repeat (first | exact (Kd.C_below HR0_3.out (bS HB.out)) | (with_reducible refine Kd.C_alloc ?_ _) | (with_reducible refine Kd.C_drewN ?_ _) | (with_reducible refine Kd.C_drew ?_))); (case side2 => exact HC0_3.out); rintro e w' ⟨rfl, ⟨nd, rfl⟩⟩))
      go_ret
      exact ⟨by first | rfl | (simp [errW_none, errW_some] <;> rfl) | (simp [*, errW_none, errW_some] <;> rfl), bS HB.out⟩
     ·replace c7 := Bool.eq_false_iff.mpr c7
      subst c7
      have H1 : (some false) = some r := by rw [if_neg (show ¬ (false = true) by decide)] at H; exact H
      clear H
      have H := H1
      clear H1
      obtain rfl := Option.some.inj H
      go_enter Try.func68, Try.ntmps68
      go_wp2_with (first | ((with_reducible refine gate_dst (N := 1) rfl ?_); (try (refine gate_guard (by rfl) ?_; dsimp only)); refine box_event ?hg (N := 1) ?hd (cs := #[.slice A0_0 l0_0.length c0_0, .slice A0_1 l0_1.length c0_1, .slice A0_2 l0_2.length c0_2, .slice A0_3 l0_3.length c0_3]) (t := 43) ?hr ?_; (case hd => rfl); (case hg => rfl); (case hr => first | (go_simp; done) | (go_simp; rfl)); intro gb142 hg w11 hbox hb; have _ := aM (below_step (bS HB.out) hb); have _ := aM (hbox); have _ := aM (leG hg (bS HB.out)); have _ := aM (leG hg (bS HB.out)); clear HB; rename_i HB BK142 GW142 GE142; clear hb hbox hg; obtain ⟨hcz12_0, hfz12_0, hcz12_1, hfz12_1, hcz12_2, hfz12_2, hcz12_3, hfz12_3⟩ := bk4 BK142.out) | (go_at_call 63; (with_reducible refine (impl_allWords.calls _ _ l0_2 false _ ?side1 ?side2 A6.out).mono ?_); (case side1 => exact cB HR0_2.out HB.out); (case side2 => exact HC0_2.out); rintro e w' ⟨rfl, ⟨nd, rfl⟩⟩))
      go_ret
      exact ⟨by first | rfl | (simp [errW_none, errW_some] <;> rfl) | (simp [*, errW_none, errW_some] <;> rfl), bS HB.out⟩
    ·rw [if_neg c5] at H
     have c5b0 : decide ((l0_3.length : Int) ≤ 64) = false := decide_eq_false c5
     have c5b1 : decide (l0_3.length ≤ 64) = false := decide_eq_false (by omega)
     clear c5
     obtain rfl := Option.some.inj H
     go_enter Try.func68, Try.ntmps68
     go_wp2_with (first | ((with_reducible refine gate_dst (N := 1) rfl ?_); (try (refine gate_guard (by rfl) ?_; dsimp only)); refine box_event ?hg (N := 1) ?hd (cs := #[.slice A0_0 l0_0.length c0_0, .slice A0_1 l0_1.length c0_1, .slice A0_2 l0_2.length c0_2, .slice A0_3 l0_3.length c0_3]) (t := 43) ?hr ?_; (case hd => rfl); (case hg => rfl); (case hr => first | (go_simp; done) | (go_simp; rfl)); intro gb142 hg w13 hbox hb; have _ := aM (below_step (bS HB.out) hb); have _ := aM (hbox); have _ := aM (leG hg (bS HB.out)); have _ := aM (leG hg (bS HB.out)); clear HB; rename_i HB BK142 GW142 GE142; clear hb hbox hg; obtain ⟨hcz14_0, hfz14_0, hcz14_1, hfz14_1, hcz14_2, hfz14_2, hcz14_3, hfz14_3⟩ := bk4 BK142.out))
     go_ret
     exact ⟨by first | rfl | (simp [errW_none, errW_some] <;> rfl) | (simp [*, errW_none, errW_some] <;> rfl), bS HB.out⟩
   ·rw [if_neg c4] at H
    have c4b0 : decide ((l0_2.length : Int) ≤ 64) = false := decide_eq_false c4
    have c4b1 : decide (l0_2.length ≤ 64) = false := decide_eq_false (by omega)
    clear c4
    obtain rfl := Option.some.inj H
    go_enter Try.func68, Try.ntmps68
    go_wp2_with (first | ((with_reducible refine gate_dst (N := 1) rfl ?_); (try (refine gate_guard (by rfl) ?_; dsimp only)); refine box_event ?hg (N := 1) ?hd (cs := #[.slice A0_0 l0_0.length c0_0, .slice A0_1 l0_1.length c0_1, .slice A0_2 l0_2.length c0_2, .slice A0_3 l0_3.length c0_3]) (t := 43) ?hr ?_; (case hd => rfl); (case hg => rfl); (case hr => first | (go_simp; done) | (go_simp; rfl)); intro gb142 hg w15 hbox hb; have _ := aM (below_step (bS HB.out) hb); have _ := aM (hbox); have _ := aM (leG hg (bS HB.out)); have _ := aM (leG hg (bS HB.out)); clear HB; rename_i HB BK142 GW142 GE142; clear hb hbox hg; obtain ⟨hcz16_0, hfz16_0, hcz16_1, hfz16_1, hcz16_2, hfz16_2, hcz16_3, hfz16_3⟩ := bk4 BK142.out))
    go_ret
    exact ⟨by first | rfl | (simp [errW_none, errW_some] <;> rfl) | (simp [*, errW_none, errW_some] <;> rfl), bS HB.out⟩
  ·rw [if_neg c3] at H
   have c3b0 : decide ((l0_1.length : Int) ≤ 64) = false := decide_eq_false c3
   have c3b1 : decide (l0_1.length ≤ 64) = false := decide_eq_false (by omega)
   clear c3
   obtain rfl := Option.some.inj H
   go_enter Try.func68, Try.ntmps68
   go_wp2_with (first | ((with_reducible refine gate_dst (N := 1) rfl ?_); (try (refine gate_guard (by rfl) ?_; dsimp only)); refine box_event ?hg (N := 1) ?hd (cs := #[.slice A0_0 l0_0.length c0_0, .slice A0_1 l0_1.length c0_1, .slice A0_2 l0_2.length c0_2, .slice A0_3 l0_3.length c0_3]) (t := 43) ?hr ?_; (case hd => rfl); (case hg => rfl); (case hr => first | (go_simp; done) | (go_simp; rfl)); intro gb142 hg w17 hbox hb; have _ := aM (below_step (bS HB.out) hb); have _ := aM (hbox); have _ := aM (leG hg (bS HB.out)); have _ := aM (leG hg (bS HB.out)); clear HB; rename_i HB BK142 GW142 GE142; clear hb hbox hg; obtain ⟨hcz18_0, hfz18_0, hcz18_1, hfz18_1, hcz18_2, hfz18_2, hcz18_3, hfz18_3⟩ := bk4 BK142.out))
   go_ret
   exact ⟨by first | rfl | (simp [errW_none, errW_some] <;> rfl) | (simp [*, errW_none, errW_some] <;> rfl), bS HB.out⟩
 ·rw [if_neg c2] at H
  have c2b0 : decide ((l0_0.length : Int) ≤ 64) = false := decide_eq_false c2
  have c2b1 : decide (l0_0.length ≤ 64) = false := decide_eq_false (by omega)
  clear c2
  obtain rfl := Option.some.inj H
  go_enter Try.func68, Try.ntmps68
  go_wp2_with (first | ((with_reducible refine gate_dst (N := 1) rfl ?_); (try (refine gate_guard (by rfl) ?_; dsimp only)); refine box_event ?hg (N := 1) ?hd (cs := #[.slice A0_0 l0_0.length c0_0, .slice A0_1 l0_1.length c0_1, .slice A0_2 l0_2.length c0_2, .slice A0_3 l0_3.length c0_3]) (t := 43) ?hr ?_; (case hd => rfl); (case hg => rfl); (case hr => first | (go_simp; done) | (go_simp; rfl)); intro gb142 hg w19 hbox hb; have _ := aM (below_step (bS HB.out) hb); have _ := aM (hbox); have _ := aM (leG hg (bS HB.out)); have _ := aM (leG hg (bS HB.out)); clear HB; rename_i HB BK142 GW142 GE142; clear hb hbox hg; obtain ⟨hcz20_0, hfz20_0, hcz20_1, hfz20_1, hcz20_2, hfz20_2, hcz20_3, hfz20_3⟩ := bk4 BK142.out))
  go_ret
  exact ⟨by first | rfl | (simp [errW_none, errW_some] <;> rfl) | (simp [*, errW_none, errW_some] <;> rfl), bS HB.out⟩
/-! ### impl_written: function 73 -/
def impl_written.f (a0_0 : Int) (a0_1 : Int) (a0_2 : Int) (l0_3 : List Int) (l0_4 : List Bool) (a0_5 : Int) : Option (Int) := if a0_0 = 22 then (some 1) else (some (wrap64 ((l0_3.length : Int) + (l0_4.length : Int))))
set_option maxHeartbeats 8000000 in
set_option maxRecDepth 100000 in
theorem impl_written.calls (a0_0 : Int) (a0_1 : Int) (a0_2 : Int) (A0_3 : Option Addr) (c0_3 : Nat) (l0_3 : List Int) (A0_4 : Option Addr) (c0_4 : Nat) (l0_4 : List Bool) (a0_5 : Int) (r : Int) (w : World) (hr0_3 : Kd.C (Kd.int .i64) w A0_3 l0_3.length l0_3) (hc0_3 : l0_3.length ≤ c0_3) (hr0_4 : Kd.C Kd.bool w A0_4 l0_4.length l0_4) (hc0_4 : l0_4.length ≤ c0_4) (h : impl_written.f a0_0 a0_1 a0_2 l0_3 l0_4 a0_5 = some r) :
  Calls Try.prog 73 #[.agg #[.int .i64 a0_0, .int .i64 a0_1, .int .i64 a0_2, .slice A0_3 l0_3.length c0_3, .slice A0_4 l0_4.length c0_4, .int .i64 a0_5]] w fun e w' => e = .returned (.int .i64 r) ∧ Below w.heap.size w w' := by
 have hu48 := Try.underlying48
 have HR0_3 := aM hr0_3
 have HC0_3 := aM hc0_3
 clear hr0_3 hc0_3
 have HR0_4 := aM hr0_4
 have HC0_4 := aM hc0_4
 clear hr0_4 hc0_4
 have HB := aM (Below.refl w.heap.size w)
 have H : (if a0_0 = 22 then (some 1) else (some (wrap64 ((l0_3.length : Int) + (l0_4.length : Int))))) = some r := h
 clear h
 by_cases c2 : a0_0 = 22
 ·rw [if_pos c2] at H
  have c2b0 : (a0_0 == 22) = true := beq_iff_eq.mpr c2
  have c2b1 : (a0_0 != 22) = false := bne_eq_false_iff_eq.mpr c2
  clear c2
  obtain rfl := Option.some.inj H
  go_enter Try.func73, Try.ntmps73
  go_wp2_with (first | ((with_reducible refine gate_dst (N := 1) rfl ?_); refine box_event ?hg (N := 1) ?hd (cs := #[.int .i64 a0_0, .int .i64 a0_1, .int .i64 a0_2, .slice A0_3 l0_3.length c0_3, .slice A0_4 l0_4.length c0_4, .int .i64 a0_5]) (t := 48) ?hr ?_; (case hd => rfl); (case hg => rfl); (case hr => first | (go_simp; done) | (go_simp; rfl)); intro gb147 hg w3 hbox hb; have _ := aM (below_step (bS HB.out) hb); have _ := aM (hbox); have _ := aM (leG hg (bS HB.out)); have _ := aM (leG hg (bS HB.out)); clear HB; rename_i HB BK147 GW147 GE147; clear hb hbox hg; obtain ⟨hcz4_0, hfz4_0, hcz4_1, hfz4_1, hcz4_2, hfz4_2, hcz4_3, hfz4_3, hcz4_4, hfz4_4, hcz4_5, hfz4_5⟩ := bk6 BK147.out))
  go_ret
  exact ⟨by first | rfl | (simp [errW_none, errW_some] <;> rfl) | (simp [*, errW_none, errW_some] <;> rfl), bS HB.out⟩
 ·rw [if_neg c2] at H
  have c2b0 : (a0_0 == 22) = false := beq_eq_false_iff_ne.mpr c2
  have c2b1 : (a0_0 != 22) = true := bne_iff_ne.mpr c2
  obtain rfl := Option.some.inj H
  go_enter Try.func73, Try.ntmps73
  go_wp2_with (first | ((with_reducible refine gate_dst (N := 1) rfl ?_); refine box_event ?hg (N := 1) ?hd (cs := #[.int .i64 a0_0, .int .i64 a0_1, .int .i64 a0_2, .slice A0_3 l0_3.length c0_3, .slice A0_4 l0_4.length c0_4, .int .i64 a0_5]) (t := 48) ?hr ?_; (case hd => rfl); (case hg => rfl); (case hr => first | (go_simp; done) | (go_simp; rfl)); intro gb147 hg w5 hbox hb; have _ := aM (below_step (bS HB.out) hb); have _ := aM (hbox); have _ := aM (leG hg (bS HB.out)); have _ := aM (leG hg (bS HB.out)); clear HB; rename_i HB BK147 GW147 GE147; clear hb hbox hg; obtain ⟨hcz6_0, hfz6_0, hcz6_1, hfz6_1, hcz6_2, hfz6_2, hcz6_3, hfz6_3, hcz6_4, hfz6_4, hcz6_5, hfz6_5⟩ := bk6 BK147.out))
  go_ret
  exact ⟨by first | rfl | (simp [errW_none, errW_some] <;> rfl) | (simp [*, errW_none, errW_some] <;> rfl), bS HB.out⟩
/-! ### impl_ReqOk: function 69 -/
mutual
def impl_ReqOk.j0 : Nat → Bool → Int → Int → Int → List Int → List Bool → Int → Option (Bool)
 | 0, _, _, _, _, _, _, _ => none
 | k + 1, x48, x154000, x154001, x154002, x154003, x154004, x154005 => if x48 = true then (some false) else ((impl_isWord.f x154001).bind fun t167 => (if t167 = true then ((impl_isWord.f x154005).bind fun t168 => (if t168 = true then ((impl_allWords.f x154003).bind fun t169 => (if t169 = true then (impl_ReqOk.j1 k (decide ((wrap64 (x154001 + x154002)) > 65536)) x154000 x154001 x154002 x154003 x154004 x154005) else (impl_ReqOk.j1 k true x154000 x154001 x154002 x154003 x154004 x154005))) else (impl_ReqOk.j1 k true x154000 x154001 x154002 x154003 x154004 x154005))) else (impl_ReqOk.j1 k true x154000 x154001 x154002 x154003 x154004 x154005)))
def impl_ReqOk.j1 : Nat → Bool → Int → Int → Int → List Int → List Bool → Int → Option (Bool)
 | 0, _, _, _, _, _, _, _ => none
 | k + 1, x72, x154000, x154001, x154002, x154003, x154004, x154005 => if x72 = true then (some false) else (if x154000 = 23 then ((impl_written.f x154000 x154001 x154002 x154003 x154004 x154005).bind fun t170 => (some (decide ((wrap64 (x154005 + t170)) ≤ 65536)))) else (if x154005 = 0 then ((impl_written.f x154000 x154001 x154002 x154003 x154004 x154005).bind fun t171 => (some (decide ((wrap64 (x154001 + t171)) ≤ 65536)))) else (some false)))
end
def impl_ReqOk.f (k : Nat) (a0_0 : Int) (a0_1 : Int) (a0_2 : Int) (l0_3 : List Int) (l0_4 : List Bool) (a0_5 : Int) : Option (Bool) := (impl_counts.f k a0_0).bind fun bt154 => ((impl_isKind.f a0_0).bind fun t163 => (if t163 = true then ((impl_in.f a0_2 bt154.1 bt154.2.1).bind fun t164 => (if t164 = true then ((impl_in.f (l0_3.length : Int) bt154.2.2.1 bt154.2.2.2.1).bind fun t165 => (if t165 = true then ((impl_in.f (l0_4.length : Int) bt154.2.2.2.2.1 bt154.2.2.2.2.2).bind fun t166 => (impl_ReqOk.j0 k (!t166) a0_0 a0_1 a0_2 l0_3 l0_4 a0_5)) else (impl_ReqOk.j0 k true a0_0 a0_1 a0_2 l0_3 l0_4 a0_5))) else (impl_ReqOk.j0 k true a0_0 a0_1 a0_2 l0_3 l0_4 a0_5))) else (impl_ReqOk.j0 k true a0_0 a0_1 a0_2 l0_3 l0_4 a0_5)))
theorem impl_ReqOk.mono_l : ∀ k, (∀ y0 y1 y2 y3 y4 y5 y6, LeO (impl_ReqOk.j0 k y0 y1 y2 y3 y4 y5 y6) (impl_ReqOk.j0 (k + 1) y0 y1 y2 y3 y4 y5 y6)) ∧ (∀ y0 y1 y2 y3 y4 y5 y6, LeO (impl_ReqOk.j1 k y0 y1 y2 y3 y4 y5 y6) (impl_ReqOk.j1 (k + 1) y0 y1 y2 y3 y4 y5 y6))
 | 0 => ⟨fun _ _ _ _ _ _ _ r h => by simp [impl_ReqOk.j0] at h, fun _ _ _ _ _ _ _ r h => by simp [impl_ReqOk.j1] at h⟩
 | k + 1 => by
  obtain ⟨ih0, ih1⟩ := impl_ReqOk.mono_l k
  refine ⟨?_, ?_⟩
  ·intro y0 y1 y2 y3 y4 y5 y6
   unfold impl_ReqOk.j0
   repeat' first
   | (with_reducible exact ih0 _ _ _ _ _ _ _)
   | (with_reducible exact ih1 _ _ _ _ _ _ _)
   | (with_reducible exact impl_counts.mono _ _)
   | (with_reducible exact LeO.refl _)
   | (with_reducible exact LeO.none _)
   | (with_reducible refine LeO.ite ?_ ?_)
   | (with_reducible refine LeO.bind ?_ (fun _ => ?_))
   | exact ih0 _ _ _ _ _ _ _
   | exact ih1 _ _ _ _ _ _ _
   | exact impl_counts.mono _ _
   | exact LeO.none _
   | refine LeO.ite ?_ ?_
   | refine LeO.bind ?_ (fun _ => ?_)
  ·intro y0 y1 y2 y3 y4 y5 y6
   unfold impl_ReqOk.j1
   repeat' first
   | (with_reducible exact ih0 _ _ _ _ _ _ _)
   | (with_reducible exact ih1 _ _ _ _ _ _ _)
   | (with_reducible exact impl_counts.mono _ _)
   | (with_reducible exact LeO.refl _)
   | (with_reducible exact LeO.none _)
   | (with_reducible refine LeO.ite ?_ ?_)
   | (with_reducible refine LeO.bind ?_ (fun _ => ?_))
   | exact ih0 _ _ _ _ _ _ _
   | exact ih1 _ _ _ _ _ _ _
   | exact impl_counts.mono _ _
   | exact LeO.none _
   | refine LeO.ite ?_ ?_
   | refine LeO.bind ?_ (fun _ => ?_)
theorem impl_ReqOk.mono : ∀ a0 a1 a2 a3 a4 a5 k, LeO (impl_ReqOk.f k a0 a1 a2 a3 a4 a5) (impl_ReqOk.f (k + 1) a0 a1 a2 a3 a4 a5) := by
 intro a0 a1 a2 a3 a4 a5 k
 obtain ⟨ih0, ih1⟩ := impl_ReqOk.mono_l k
 unfold impl_ReqOk.f
 repeat' first
   | (with_reducible exact ih0 _ _ _ _ _ _ _)
   | (with_reducible exact ih1 _ _ _ _ _ _ _)
   | (with_reducible exact impl_counts.mono _ _)
   | (with_reducible exact LeO.refl _)
   | (with_reducible exact LeO.none _)
   | (with_reducible refine LeO.ite ?_ ?_)
   | (with_reducible refine LeO.bind ?_ (fun _ => ?_))
   | exact ih0 _ _ _ _ _ _ _
   | exact ih1 _ _ _ _ _ _ _
   | exact impl_counts.mono _ _
   | exact LeO.none _
   | refine LeO.ite ?_ ?_
   | refine LeO.bind ?_ (fun _ => ?_)
def impl_ReqOk.T8 : Bool × List (List Nat × List Nat) := (true, [([], []), ([0], [0]), ([1], [1]), ([2], [2]), ([3], [3]), ([4, 3], [3, 4]), ([3], [3]), ([6, 3, 3], [3, 6]), ([5, 7, 3], [3, 5, 7]), ([8, 3], [3, 8]), ([3, 9], [3, 9]), ([10, 7, 0, 1, 2, 3, 4, 5, 6, 7, 8, 9, 10], [10])])
def impl_ReqOk.B8 : List Nat := [0, 1, 3, 7, 15, 31, 15, 79, 255, 511, 1023, 2047]
theorem impl_ReqOk.tab8 : rtab .any (opsOf Try.f69 8) = impl_ReqOk.T8 := by kernel_rfl
theorem impl_ReqOk.bits8 : waitsOk impl_ReqOk.T8.2 impl_ReqOk.B8 = true := by kernel_rfl
set_option maxHeartbeats 8000000 in
set_option maxRecDepth 100000 in
theorem impl_ReqOk.calls (k : Nat) (a0_0 : Int) (a0_1 : Int) (a0_2 : Int) (A0_3 : Option Addr) (c0_3 : Nat) (l0_3 : List Int) (A0_4 : Option Addr) (c0_4 : Nat) (l0_4 : List Bool) (a0_5 : Int) (r : Bool) (w : World) (hr0_3 : Kd.C (Kd.int .i64) w A0_3 l0_3.length l0_3) (hc0_3 : l0_3.length ≤ c0_3) (hr0_4 : Kd.C Kd.bool w A0_4 l0_4.length l0_4) (hc0_4 : l0_4.length ≤ c0_4) (h : impl_ReqOk.f k a0_0 a0_1 a0_2 l0_3 l0_4 a0_5 = some r) :
  Calls Try.prog 69 #[.agg #[.int .i64 a0_0, .int .i64 a0_1, .int .i64 a0_2, .slice A0_3 l0_3.length c0_3, .slice A0_4 l0_4.length c0_4, .int .i64 a0_5]] w fun e w' => e = .returned (.bool r) ∧ Below w.heap.size w w' := by
 have hu48 := Try.underlying48
 have hu81 := Try.underlying81
 have HR0_3 := aM hr0_3
 have HC0_3 := aM hc0_3
 clear hr0_3 hc0_3
 have HR0_4 := aM hr0_4
 have HC0_4 := aM hc0_4
 clear hr0_4 hc0_4
 have HB := aM (Below.refl w.heap.size w)
 have H : ((impl_counts.f k a0_0).bind fun bt154 => ((impl_isKind.f a0_0).bind fun t163 => (if t163 = true then ((impl_in.f a0_2 bt154.1 bt154.2.1).bind fun t164 => (if t164 = true then ((impl_in.f (l0_3.length : Int) bt154.2.2.1 bt154.2.2.2.1).bind fun t165 => (if t165 = true then ((impl_in.f (l0_4.length : Int) bt154.2.2.2.2.1 bt154.2.2.2.2.2).bind fun t166 => (impl_ReqOk.j0 k (!t166) a0_0 a0_1 a0_2 l0_3 l0_4 a0_5)) else (impl_ReqOk.j0 k true a0_0 a0_1 a0_2 l0_3 l0_4 a0_5))) else (impl_ReqOk.j0 k true a0_0 a0_1 a0_2 l0_3 l0_4 a0_5))) else (impl_ReqOk.j0 k true a0_0 a0_1 a0_2 l0_3 l0_4 a0_5)))) = some r := h
 clear h
 replace H := Option.bind_eq_some_iff.mp H
 obtain ⟨⟨t154, t155, t156, t157, t158, t159⟩, A20, H⟩ := H
 replace H : ((impl_isKind.f a0_0).bind fun t163 => (if t163 = true then ((impl_in.f a0_2 t154 t155).bind fun t164 => (if t164 = true then ((impl_in.f (l0_3.length : Int) t156 t157).bind fun t165 => (if t165 = true then ((impl_in.f (l0_4.length : Int) t158 t159).bind fun t166 => (impl_ReqOk.j0 k (!t166) a0_0 a0_1 a0_2 l0_3 l0_4 a0_5)) else (impl_ReqOk.j0 k true a0_0 a0_1 a0_2 l0_3 l0_4 a0_5))) else (impl_ReqOk.j0 k true a0_0 a0_1 a0_2 l0_3 l0_4 a0_5))) else (impl_ReqOk.j0 k true a0_0 a0_1 a0_2 l0_3 l0_4 a0_5))) = some r := H
 have A2 := aM A20
 clear A20
 have HC3 := aM H
 clear H
 go_enter Try.func69, Try.ntmps69
 go_upto_region 2 with (first | ((with_reducible refine gate_dst (N := 1) rfl ?_); (try (refine gate_guard (by rfl) ?_; dsimp only)); refine box_event ?hg (N := 1) ?hd (cs := #[.int .i64 a0_0, .int .i64 a0_1, .int .i64 a0_2, .slice A0_3 l0_3.length c0_3, .slice A0_4 l0_4.length c0_4, .int .i64 a0_5]) (t := 48) ?hr ?_; (case hd => rfl); (case hg => rfl); (case hr => first | (go_simp; done) | (go_simp; rfl)); intro gb153 hg w4 hbox hb; have _ := aM (below_step (bS HB.out) hb); have _ := aM (hbox); have _ := aM (leG hg (bS HB.out)); have _ := aM (leG hg (bS HB.out)); clear HB; rename_i HB BK153 GW153 GE153; clear hb hbox hg; obtain ⟨hcz5_0, hfz5_0, hcz5_1, hfz5_1, hcz5_2, hfz5_2, hcz5_3, hfz5_3, hcz5_4, hfz5_4, hcz5_5, hfz5_5⟩ := bk6 BK153.out) | ((with_reducible refine gate_callee (f := 93) rfl ?_); refine gL (some 9) rfl rfl Try.func93 (by kernel_rfl) rfl #[.int .i64 a0_0] rfl ?_; (with_reducible refine (impl_counts.calls k a0_0 t154 t155 t156 t157 t158 t159 _ A2.out).mono ?_); rintro e w6 ⟨rfl, hb⟩; refine ⟨_, rfl, ?_⟩; have _ := aM (kB BK153.out hb); have _ := aM (below_step (bS HB.out) hb); clear BK153 HB; rename_i BK153 HB; (try clear hb)) | ((with_reducible refine gate_dst (N := 3) rfl ?_); (try (refine gate_guard (by rfl) ?_; dsimp only)); refine box_event ?hg (N := 3) ?hd (cs := #[.int .i64 0, .int .i64 0]) (t := 81) ?hr ?_; (case hd => rfl); (case hg => rfl); (case hr => first | (go_simp; done) | (go_simp; rfl)); intro gb160 hg w7 hbox hb; have _ := aM (kB BK153.out hb); have _ := aM (below_step (bS HB.out) hb); have _ := aM (hbox); have _ := aM (leG hg (bS HB.out)); have _ := aM (leG hg (bS HB.out)); have _ := aM (neL hg (kA BK153.out)); have _ := aM (neG hg (kA BK153.out)); clear BK153 HB; rename_i BK153 HB BK160 GW160 GE160 NB153_160 NB160_153; clear hb hbox hg) | ((with_reducible refine gate_dst (N := 4) rfl ?_); (try (refine gate_guard (by rfl) ?_; dsimp only)); refine box_event ?hg (N := 4) ?hd (cs := #[.int .i64 0, .int .i64 0]) (t := 81) ?hr ?_; (case hd => rfl); (case hg => rfl); (case hr => first | (go_simp; done) | (go_simp; rfl)); intro gb161 hg w8 hbox hb; have _ := aM (kB BK153.out hb); have _ := aM (kB BK160.out hb); have _ := aM (below_step (bS HB.out) hb); have _ := aM (hbox); have _ := aM (leG hg (bS HB.out)); have _ := aM (leG hg (bS HB.out)); have _ := aM (neL hg (kA BK153.out)); have _ := aM (neG hg (kA BK153.out)); have _ := aM (neL hg (kA BK160.out)); have _ := aM (neG hg (kA BK160.out)); clear BK153 BK160 HB; rename_i BK153 BK160 HB BK161 GW161 GE161 NB153_161 NB161_153 NB160_161 NB161_160; clear hb hbox hg) | ((with_reducible refine gate_dst (N := 5) rfl ?_); (try (refine gate_guard (by rfl) ?_; dsimp only)); refine box_event ?hg (N := 5) ?hd (cs := #[.int .i64 0, .int .i64 0]) (t := 81) ?hr ?_; (case hd => rfl); (case hg => rfl); (case hr => first | (go_simp; done) | (go_simp; rfl)); intro gb162 hg w9 hbox hb; have _ := aM (kB BK153.out hb); have _ := aM (kB BK160.out hb); have _ := aM (kB BK161.out hb); have _ := aM (below_step (bS HB.out) hb); have _ := aM (hbox); have _ := aM (leG hg (bS HB.out)); have _ := aM (leG hg (bS HB.out)); have _ := aM (neL hg (kA BK153.out)); have _ := aM (neG hg (kA BK153.out)); have _ := aM (neL hg (kA BK160.out)); have _ := aM (neG hg (kA BK160.out)); have _ := aM (neL hg (kA BK161.out)); have _ := aM (neG hg (kA BK161.out)); clear BK153 BK160 BK161 HB; rename_i BK153 BK160 BK161 HB BK162 GW162 GE162 NB153_162 NB162_153 NB160_162 NB162_160 NB161_162 NB162_161; clear hb hbox hg; have hnb10 := NB160_153.out; have hnc10 := NB153_160.out; have hnb11 := NB160_161.out; have hnc11 := NB161_160.out; have hnb12 := NB160_162.out; have hnc12 := NB162_160.out; obtain ⟨hcz13_0, hfz13_0, hcz13_1, hfz13_1⟩ := bk2 BK160.out; have hnb14 := NB161_153.out; have hnc14 := NB153_161.out; have hnb15 := NB161_162.out; have hnc15 := NB162_161.out; obtain ⟨hcz16_0, hfz16_0, hcz16_1, hfz16_1⟩ := bk2 BK161.out; have hnb17 := NB162_153.out; have hnc17 := NB153_162.out; obtain ⟨hcz18_0, hfz18_0, hcz18_1, hfz18_1⟩ := bk2 BK162.out))
 (try simp only [Act.put, List.setIfInBounds_toArray, List.set_cons_zero, List.set_cons_succ])
 go_cut [48] (fun v48 wc => ∃ (kq : Nat) (x48_2 : Bool), v48 = .bool x48_2 ∧ Aside0 (impl_ReqOk.j0 kq x48_2 a0_0 a0_1 a0_2 l0_3 l0_4 a0_5 = some r) ∧ Aside0 (kq ≤ k) ∧ Aside0 (wc.heap[gb153]? = some (.cells #[.int .i64 a0_0, .int .i64 a0_1, .int .i64 a0_2, (.slice A0_3 l0_3.length c0_3), (.slice A0_4 l0_4.length c0_4), .int .i64 a0_5] 48 (0, 0))) ∧ Aside0 (wc.heap[gb160]? = some (.cells #[.int .i64 t154, .int .i64 t155] 81 (0, 0))) ∧ Aside0 (wc.heap[gb161]? = some (.cells #[.int .i64 t156, .int .i64 t157] 81 (0, 0))) ∧ Aside0 (wc.heap[gb162]? = some (.cells #[.int .i64 t158, .int .i64 t159] 81 (0, 0))) ∧ Aside0 (Below w.heap.size w wc))
 case first =>
  have H := HC3.out
  clear HC3
  replace H := Option.bind_eq_some_iff.mp H
  obtain ⟨t163, A190, H⟩ := H
  replace H : (if t163 = true then ((impl_in.f a0_2 t154 t155).bind fun t164 => (if t164 = true then ((impl_in.f (l0_3.length : Int) t156 t157).bind fun t165 => (if t165 = true then ((impl_in.f (l0_4.length : Int) t158 t159).bind fun t166 => (impl_ReqOk.j0 k (!t166) a0_0 a0_1 a0_2 l0_3 l0_4 a0_5)) else (impl_ReqOk.j0 k true a0_0 a0_1 a0_2 l0_3 l0_4 a0_5))) else (impl_ReqOk.j0 k true a0_0 a0_1 a0_2 l0_3 l0_4 a0_5))) else (impl_ReqOk.j0 k true a0_0 a0_1 a0_2 l0_3 l0_4 a0_5)) = some r := H
  have A19 := aM A190
  clear A190
  by_cases c20 : t163 = true
  ·subst c20
   have H1 : ((impl_in.f a0_2 t154 t155).bind fun t164 => (if t164 = true then ((impl_in.f (l0_3.length : Int) t156 t157).bind fun t165 => (if t165 = true then ((impl_in.f (l0_4.length : Int) t158 t159).bind fun t166 => (impl_ReqOk.j0 k (!t166) a0_0 a0_1 a0_2 l0_3 l0_4 a0_5)) else (impl_ReqOk.j0 k true a0_0 a0_1 a0_2 l0_3 l0_4 a0_5))) else (impl_ReqOk.j0 k true a0_0 a0_1 a0_2 l0_3 l0_4 a0_5))) = some r := by rw [if_pos rfl] at H; exact H
   clear H
   have H := H1
   clear H1
   replace H := Option.bind_eq_some_iff.mp H
   obtain ⟨t164, A210, H⟩ := H
   replace H : (if t164 = true then ((impl_in.f (l0_3.length : Int) t156 t157).bind fun t165 => (if t165 = true then ((impl_in.f (l0_4.length : Int) t158 t159).bind fun t166 => (impl_ReqOk.j0 k (!t166) a0_0 a0_1 a0_2 l0_3 l0_4 a0_5)) else (impl_ReqOk.j0 k true a0_0 a0_1 a0_2 l0_3 l0_4 a0_5))) else (impl_ReqOk.j0 k true a0_0 a0_1 a0_2 l0_3 l0_4 a0_5)) = some r := H
   have A21 := aM A210
   clear A210
   by_cases c22 : t164 = true
   ·subst c22
    have H1 : ((impl_in.f (l0_3.length : Int) t156 t157).bind fun t165 => (if t165 = true then ((impl_in.f (l0_4.length : Int) t158 t159).bind fun t166 => (impl_ReqOk.j0 k (!t166) a0_0 a0_1 a0_2 l0_3 l0_4 a0_5)) else (impl_ReqOk.j0 k true a0_0 a0_1 a0_2 l0_3 l0_4 a0_5))) = some r := by rw [if_pos rfl] at H; exact H
    clear H
    have H := H1
    clear H1
    replace H := Option.bind_eq_some_iff.mp H
    obtain ⟨t165, A230, H⟩ := H
    replace H : (if t165 = true then ((impl_in.f (l0_4.length : Int) t158 t159).bind fun t166 => (impl_ReqOk.j0 k (!t166) a0_0 a0_1 a0_2 l0_3 l0_4 a0_5)) else (impl_ReqOk.j0 k true a0_0 a0_1 a0_2 l0_3 l0_4 a0_5)) = some r := H
    have A23 := aM A230
    clear A230
    by_cases c24 : t165 = true
    ·subst c24
     have H1 : ((impl_in.f (l0_4.length : Int) t158 t159).bind fun t166 => (impl_ReqOk.j0 k (!t166) a0_0 a0_1 a0_2 l0_3 l0_4 a0_5)) = some r := by rw [if_pos rfl] at H; exact H
     clear H
     have H := H1
     clear H1
     replace H := Option.bind_eq_some_iff.mp H
     obtain ⟨t166, A250, H⟩ := H
     replace H : (impl_ReqOk.j0 k (!t166) a0_0 a0_1 a0_2 l0_3 l0_4 a0_5) = some r := H
     have A25 := aM A250
     clear A250
     have H' := aM H
     clear H
     have hnb26 := NB153_160.out
     have hnc26 := NB160_153.out
     have hnb27 := NB153_161.out
     have hnc27 := NB161_153.out
     have hnb28 := NB153_162.out
     have hnc28 := NB162_153.out
     obtain ⟨hcz29_0, hfz29_0, hcz29_1, hfz29_1, hcz29_2, hfz29_2, hcz29_3, hfz29_3, hcz29_4, hfz29_4, hcz29_5, hfz29_5⟩ := bk6 BK153.out
     go_wp2_with (first | ((with_reducible refine gate_callee (f := 50) rfl ?_); refine gL (some 15) rfl rfl Try.func50 (by kernel_rfl) rfl #[.int .i64 a0_0] rfl ?_; (with_reducible refine (impl_isKind.calls a0_0 true _ A19.out).mono ?_); rintro e w' ⟨rfl, ⟨nd, rfl⟩⟩; refine ⟨_, rfl, ?_⟩; have hnb30 := NB160_161.out; have hnc30 := NB161_160.out; have hnb31 := NB160_162.out; have hnc31 := NB162_160.out; obtain ⟨hcz32_0, hfz32_0, hcz32_1, hfz32_1⟩ := bk2 BK160.out) | (go_at_call 62; (with_reducible refine (impl_in.calls a0_2 t154 t155 true _ A21.out).mono ?_); rintro e w' ⟨rfl, ⟨nd, rfl⟩⟩; have hnb33 := NB161_162.out; have hnc33 := NB162_161.out; obtain ⟨hcz34_0, hfz34_0, hcz34_1, hfz34_1⟩ := bk2 BK161.out) | (go_at_call 62; (with_reducible refine (impl_in.calls (l0_3.length : Int) t156 t157 true _ A23.out).mono ?_); rintro e w' ⟨rfl, ⟨nd, rfl⟩⟩; obtain ⟨hcz35_0, hfz35_0, hcz35_1, hfz35_1⟩ := bk2 BK162.out) | (go_at_call 62; (with_reducible refine (impl_in.calls (l0_4.length : Int) t158 t159 t166 _ A25.out).mono ?_); rintro e w' ⟨rfl, ⟨nd, rfl⟩⟩))
     go_meet
     case rel => exact ⟨_, (!t166), (by first | rfl | (simp; done) | (simp [*]; done)), H', ⟨by first | omega | exact Nat.le_refl _⟩, ⟨kX BK153.out⟩, ⟨kX BK160.out⟩, ⟨kX BK161.out⟩, ⟨kX BK162.out⟩, ⟨bS HB.out⟩⟩
    ·replace c24 := Bool.eq_false_iff.mpr c24
     subst c24
     have H1 : (impl_ReqOk.j0 k true a0_0 a0_1 a0_2 l0_3 l0_4 a0_5) = some r := by rw [if_neg (show ¬ (false = true) by decide)] at H; exact H
     clear H
     have H := H1
     clear H1
     have H' := aM H
     clear H
     have hnb36 := NB153_160.out
     have hnc36 := NB160_153.out
     have hnb37 := NB153_161.out
     have hnc37 := NB161_153.out
     have hnb38 := NB153_162.out
     have hnc38 := NB162_153.out
     obtain ⟨hcz39_0, hfz39_0, hcz39_1, hfz39_1, hcz39_2, hfz39_2, hcz39_3, hfz39_3, hcz39_4, hfz39_4, hcz39_5, hfz39_5⟩ := bk6 BK153.out
     go_wp2_with (first | ((with_reducible refine gate_callee (f := 50) rfl ?_); refine gL (some 15) rfl rfl Try.func50 (by kernel_rfl) rfl #[.int .i64 a0_0] rfl ?_; (with_reducible refine (impl_isKind.calls a0_0 true _ A19.out).mono ?_); rintro e w' ⟨rfl, ⟨nd, rfl⟩⟩; refine ⟨_, rfl, ?_⟩; have hnb40 := NB160_161.out; have hnc40 := NB161_160.out; have hnb41 := NB160_162.out; have hnc41 := NB162_160.out; obtain ⟨hcz42_0, hfz42_0, hcz42_1, hfz42_1⟩ := bk2 BK160.out) | (go_at_call 62; (with_reducible refine (impl_in.calls a0_2 t154 t155 true _ A21.out).mono ?_); rintro e w' ⟨rfl, ⟨nd, rfl⟩⟩; have hnb43 := NB161_162.out; have hnc43 := NB162_161.out; obtain ⟨hcz44_0, hfz44_0, hcz44_1, hfz44_1⟩ := bk2 BK161.out) | (go_at_call 62; (with_reducible refine (impl_in.calls (l0_3.length : Int) t156 t157 false _ A23.out).mono ?_); rintro e w' ⟨rfl, ⟨nd, rfl⟩⟩))
     go_meet
     case rel => exact ⟨_, (true), (by first | rfl | (simp; done) | (simp [*]; done)), H', ⟨by first | omega | exact Nat.le_refl _⟩, ⟨kX BK153.out⟩, ⟨kX BK160.out⟩, ⟨kX BK161.out⟩, ⟨kX BK162.out⟩, ⟨bS HB.out⟩⟩
   ·replace c22 := Bool.eq_false_iff.mpr c22
    subst c22
    have H1 : (impl_ReqOk.j0 k true a0_0 a0_1 a0_2 l0_3 l0_4 a0_5) = some r := by rw [if_neg (show ¬ (false = true) by decide)] at H; exact H
    clear H
    have H := H1
    clear H1
    have H' := aM H
    clear H
    have hnb45 := NB153_160.out
    have hnc45 := NB160_153.out
    have hnb46 := NB153_161.out
    have hnc46 := NB161_153.out
    have hnb47 := NB153_162.out
    have hnc47 := NB162_153.out
    obtain ⟨hcz48_0, hfz48_0, hcz48_1, hfz48_1, hcz48_2, hfz48_2, hcz48_3, hfz48_3, hcz48_4, hfz48_4, hcz48_5, hfz48_5⟩ := bk6 BK153.out
    go_wp2_with (first | ((with_reducible refine gate_callee (f := 50) rfl ?_); refine gL (some 15) rfl rfl Try.func50 (by kernel_rfl) rfl #[.int .i64 a0_0] rfl ?_; (with_reducible refine (impl_isKind.calls a0_0 true _ A19.out).mono ?_); rintro e w' ⟨rfl, ⟨nd, rfl⟩⟩; refine ⟨_, rfl, ?_⟩; have hnb49 := NB160_161.out; have hnc49 := NB161_160.out; have hnb50 := NB160_162.out; have hnc50 := NB162_160.out; obtain ⟨hcz51_0, hfz51_0, hcz51_1, hfz51_1⟩ := bk2 BK160.out) | (go_at_call 62; (with_reducible refine (impl_in.calls a0_2 t154 t155 false _ A21.out).mono ?_); rintro e w' ⟨rfl, ⟨nd, rfl⟩⟩))
    go_meet
    case rel => exact ⟨_, (true), (by first | rfl | (simp; done) | (simp [*]; done)), H', ⟨by first | omega | exact Nat.le_refl _⟩, ⟨kX BK153.out⟩, ⟨kX BK160.out⟩, ⟨kX BK161.out⟩, ⟨kX BK162.out⟩, ⟨bS HB.out⟩⟩
  ·replace c20 := Bool.eq_false_iff.mpr c20
   subst c20
   have H1 : (impl_ReqOk.j0 k true a0_0 a0_1 a0_2 l0_3 l0_4 a0_5) = some r := by rw [if_neg (show ¬ (false = true) by decide)] at H; exact H
   clear H
   have H := H1
   clear H1
   have H' := aM H
   clear H
   have hnb52 := NB153_160.out
   have hnc52 := NB160_153.out
   have hnb53 := NB153_161.out
   have hnc53 := NB161_153.out
   have hnb54 := NB153_162.out
   have hnc54 := NB162_153.out
   obtain ⟨hcz55_0, hfz55_0, hcz55_1, hfz55_1, hcz55_2, hfz55_2, hcz55_3, hfz55_3, hcz55_4, hfz55_4, hcz55_5, hfz55_5⟩ := bk6 BK153.out
   go_wp2_with (first | ((with_reducible refine gate_callee (f := 50) rfl ?_); refine gL (some 15) rfl rfl Try.func50 (by kernel_rfl) rfl #[.int .i64 a0_0] rfl ?_; (with_reducible refine (impl_isKind.calls a0_0 false _ A19.out).mono ?_); rintro e w' ⟨rfl, ⟨nd, rfl⟩⟩; refine ⟨_, rfl, ?_⟩))
   go_meet
   case rel => exact ⟨_, (true), (by first | rfl | (simp; done) | (simp [*]; done)), H', ⟨by first | omega | exact Nat.le_refl _⟩, ⟨kX BK153.out⟩, ⟨kX BK160.out⟩, ⟨kX BK161.out⟩, ⟨kX BK162.out⟩, ⟨bS HB.out⟩⟩
 case rest =>
  clear HC3
  try clear hcz13_0
  try clear hcz13_1
  try clear hcz16_0
  try clear hcz16_1
  try clear hcz18_0
  try clear hcz18_1
  try clear hcz5_0
  try clear hcz5_1
  try clear hcz5_2
  try clear hcz5_3
  try clear hcz5_4
  try clear hcz5_5
  try clear hfz13_0
  try clear hfz13_1
  try clear hfz16_0
  try clear hfz16_1
  try clear hfz18_0
  try clear hfz18_1
  try clear hfz5_0
  try clear hfz5_1
  try clear hfz5_2
  try clear hfz5_3
  try clear hfz5_4
  try clear hfz5_5
  obtain ⟨kq, x48_2, rfl, HA, HJ2, BK153, BK160, BK161, BK162, HB⟩ := hcut
  cases kq with
  | zero => exact absurd HA.out (by simp [impl_ReqOk.j0])
  | succ kj2 =>
   have H := HA.out
   clear HA
   simp only [impl_ReqOk.j0] at H
   by_cases c56 : x48_2 = true
   ·subst c56
    have H1 : (some false) = some r := by rw [if_pos rfl] at H; exact H
    clear H
    have H := H1
    clear H1
    obtain rfl := Option.some.inj H
    go_wp2
    go_ret
    exact ⟨by first | rfl | (simp [errW_none, errW_some] <;> rfl) | (simp [*, errW_none, errW_some] <;> rfl), bS HB.out⟩
   ·replace c56 := Bool.eq_false_iff.mpr c56
    subst c56
    have H1 : ((impl_isWord.f a0_1).bind fun t167 => (if t167 = true then ((impl_isWord.f a0_5).bind fun t168 => (if t168 = true then ((impl_allWords.f l0_3).bind fun t169 => (if t169 = true then (impl_ReqOk.j1 kj2 (decide ((wrap64 (a0_1 + a0_2)) > 65536)) a0_0 a0_1 a0_2 l0_3 l0_4 a0_5) else (impl_ReqOk.j1 kj2 true a0_0 a0_1 a0_2 l0_3 l0_4 a0_5))) else (impl_ReqOk.j1 kj2 true a0_0 a0_1 a0_2 l0_3 l0_4 a0_5))) else (impl_ReqOk.j1 kj2 true a0_0 a0_1 a0_2 l0_3 l0_4 a0_5))) = some r := by rw [if_neg (show ¬ (false = true) by decide)] at H; exact H
    clear H
    have H := H1
    clear H1
    have HC57 := aM H
    clear H
    go_upto_region 4 with (fail)
    go_cut [72] (fun v72 wc => ∃ (kq : Nat) (x72_56 : Bool), v72 = .bool x72_56 ∧ Aside0 (impl_ReqOk.j1 kq x72_56 a0_0 a0_1 a0_2 l0_3 l0_4 a0_5 = some r) ∧ Aside0 (kq ≤ kj2) ∧ Aside0 (wc.heap[gb153]? = some (.cells #[.int .i64 a0_0, .int .i64 a0_1, .int .i64 a0_2, (.slice A0_3 l0_3.length c0_3), (.slice A0_4 l0_4.length c0_4), .int .i64 a0_5] 48 (0, 0))) ∧ Aside0 (wc.heap[gb160]? = some (.cells #[.int .i64 t154, .int .i64 t155] 81 (0, 0))) ∧ Aside0 (wc.heap[gb161]? = some (.cells #[.int .i64 t156, .int .i64 t157] 81 (0, 0))) ∧ Aside0 (wc.heap[gb162]? = some (.cells #[.int .i64 t158, .int .i64 t159] 81 (0, 0))) ∧ Aside0 (Below w.heap.size w wc))
    case first =>
     have H := HC57.out
     clear HC57
     replace H := Option.bind_eq_some_iff.mp H
     obtain ⟨t167, A580, H⟩ := H
     replace H : (if t167 = true then ((impl_isWord.f a0_5).bind fun t168 => (if t168 = true then ((impl_allWords.f l0_3).bind fun t169 => (if t169 = true then (impl_ReqOk.j1 kj2 (decide ((wrap64 (a0_1 + a0_2)) > 65536)) a0_0 a0_1 a0_2 l0_3 l0_4 a0_5) else (impl_ReqOk.j1 kj2 true a0_0 a0_1 a0_2 l0_3 l0_4 a0_5))) else (impl_ReqOk.j1 kj2 true a0_0 a0_1 a0_2 l0_3 l0_4 a0_5))) else (impl_ReqOk.j1 kj2 true a0_0 a0_1 a0_2 l0_3 l0_4 a0_5)) = some r := H
     have A58 := aM A580
     clear A580
     by_cases c59 : t167 = true
     ·subst c59
      have H1 : ((impl_isWord.f a0_5).bind fun t168 => (if t168 = true then ((impl_allWords.f l0_3).bind fun t169 => (if t169 = true then (impl_ReqOk.j1 kj2 (decide ((wrap64 (a0_1 + a0_2)) > 65536)) a0_0 a0_1 a0_2 l0_3 l0_4 a0_5) else (impl_ReqOk.j1 kj2 true a0_0 a0_1 a0_2 l0_3 l0_4 a0_5))) else (impl_ReqOk.j1 kj2 true a0_0 a0_1 a0_2 l0_3 l0_4 a0_5))) = some r := by rw [if_pos rfl] at H; exact H
      clear H
      have H := H1
      clear H1
      replace H := Option.bind_eq_some_iff.mp H
      obtain ⟨t168, A600, H⟩ := H
      replace H : (if t168 = true then ((impl_allWords.f l0_3).bind fun t169 => (if t169 = true then (impl_ReqOk.j1 kj2 (decide ((wrap64 (a0_1 + a0_2)) > 65536)) a0_0 a0_1 a0_2 l0_3 l0_4 a0_5) else (impl_ReqOk.j1 kj2 true a0_0 a0_1 a0_2 l0_3 l0_4 a0_5))) else (impl_ReqOk.j1 kj2 true a0_0 a0_1 a0_2 l0_3 l0_4 a0_5)) = some r := H
      have A60 := aM A600
      clear A600
      by_cases c61 : t168 = true
      ·subst c61
       have H1 : ((impl_allWords.f l0_3).bind fun t169 => (if t169 = true then (impl_ReqOk.j1 kj2 (decide ((wrap64 (a0_1 + a0_2)) > 65536)) a0_0 a0_1 a0_2 l0_3 l0_4 a0_5) else (impl_ReqOk.j1 kj2 true a0_0 a0_1 a0_2 l0_3 l0_4 a0_5))) = some r := by rw [if_pos rfl] at H; exact H
       clear H
       have H := H1
       clear H1
       replace H := Option.bind_eq_some_iff.mp H
       obtain ⟨t169, A620, H⟩ := H
       replace H : (if t169 = true then (impl_ReqOk.j1 kj2 (decide ((wrap64 (a0_1 + a0_2)) > 65536)) a0_0 a0_1 a0_2 l0_3 l0_4 a0_5) else (impl_ReqOk.j1 kj2 true a0_0 a0_1 a0_2 l0_3 l0_4 a0_5)) = some r := H
       have A62 := aM A620
       clear A620
       by_cases c63 : t169 = true
       ·subst c63
        have H1 : (impl_ReqOk.j1 kj2 (decide ((wrap64 (a0_1 + a0_2)) > 65536)) a0_0 a0_1 a0_2 l0_3 l0_4 a0_5) = some r := by rw [if_pos rfl] at H; exact H
        clear H
        have H := H1
        clear H1
        have H' := aM H
        clear H
        have hnb64 := NB153_160.out
        have hnc64 := NB160_153.out
        have hnb65 := NB153_161.out
        have hnc65 := NB161_153.out
        have hnb66 := NB153_162.out
        have hnc66 := NB162_153.out
        obtain ⟨hcz67_0, hfz67_0, hcz67_1, hfz67_1, hcz67_2, hfz67_2, hcz67_3, hfz67_3, hcz67_4, hfz67_4, hcz67_5, hfz67_5⟩ := bk6 BK153.out
        go_wp2_with (first | ((with_reducible refine gate_callee (f := 64) rfl ?_); refine gL (some 51) rfl rfl Try.func64 (by kernel_rfl) rfl #[.int .i64 a0_1] rfl ?_; (with_reducible refine (impl_isWord.calls a0_1 true _ A58.out).mono ?_); rintro e w' ⟨rfl, ⟨nd, rfl⟩⟩; refine ⟨_, rfl, ?_⟩) | (go_at_call 64; (with_reducible refine (impl_isWord.calls a0_5 true _ A60.out).mono ?_); rintro e w' ⟨rfl, ⟨nd, rfl⟩⟩) | (go_at_call 63; (with_reducible refine (impl_allWords.calls _ _ l0_3 true _ ?side1 ?side2 A62.out).mono ?_); (case side1 => repeat (first | exact (Kd.C_below HR0_3.out (bS HB.out)) | (with_reducible refine Kd.C_alloc ?_ _) | (with_reducible refine Kd.C_drewN ?_ _) | (with_reducible refine Kd.C_drew ?_))); (case side2 => exact HC0_3.out); rintro e w' ⟨rfl, ⟨nd, rfl⟩⟩))
        go_meet
        case rel => exact ⟨_, (decide ((wrap64 (a0_1 + a0_2)) > 65536)), (by first | rfl | (simp; done) | (simp [*]; done)), H', ⟨by have := HJ2.out; first | omega | exact Nat.le_refl _⟩, ⟨kX BK153.out⟩, ⟨kX BK160.out⟩, ⟨kX BK161.out⟩, ⟨kX BK162.out⟩, ⟨bS HB.out⟩⟩
       ·replace c63 := Bool.eq_false_iff.mpr c63
        subst c63
        have H1 : (impl_ReqOk.j1 kj2 true a0_0 a0_1 a0_2 l0_3 l0_4 a0_5) = some r := by rw [if_neg (show ¬ (false = true) by decide)] at H; exact H
        clear H
        have H := H1
        clear H1
        have H' := aM H
        clear H
        have hnb68 := NB153_160.out
        have hnc68 := NB160_153.out
        have hnb69 := NB153_161.out
        have hnc69 := NB161_153.out
        have hnb70 := NB153_162.out
        have hnc70 := NB162_153.out
        obtain ⟨hcz71_0, hfz71_0, hcz71_1, hfz71_1, hcz71_2, hfz71_2, hcz71_3, hfz71_3, hcz71_4, hfz71_4, hcz71_5, hfz71_5⟩ := bk6 BK153.out
        go_wp2_with (first | ((with_reducible refine gate_callee (f := 64) rfl ?_); refine gL (some 51) rfl rfl Try.func64 (by kernel_rfl) rfl #[.int .i64 a0_1] rfl ?_; (with_reducible refine (impl_isWord.calls a0_1 true _ A58.out).mono ?_); rintro e w' ⟨rfl, ⟨nd, rfl⟩⟩; refine ⟨_, rfl, ?_⟩) | (go_at_call 64; (with_reducible refine (impl_isWord.calls a0_5 true _ A60.out).mono ?_); rintro e w' ⟨rfl, ⟨nd, rfl⟩⟩) | (go_at_call 63; (with_reducible refine (impl_allWords.calls _ _ l0_3 false _ ?side1 ?side2 A62.out).mono ?_); (case side1 => repeat (first | exact (Kd.C_below HR0_3.out (bS HB.out)) | (with_reducible refine Kd.C_alloc ?_ _) | (with_reducible refine Kd.C_drewN ?_ _) | (with_reducible refine Kd.C_drew ?_))); (case side2 => exact HC0_3.out); rintro e w' ⟨rfl, ⟨nd, rfl⟩⟩))
        go_meet
        case rel => exact ⟨_, (true), (by first | rfl | (simp; done) | (simp [*]; done)), H', ⟨by have := HJ2.out; first | omega | exact Nat.le_refl _⟩, ⟨kX BK153.out⟩, ⟨kX BK160.out⟩, ⟨kX BK161.out⟩, ⟨kX BK162.out⟩, ⟨bS HB.out⟩⟩
      ·replace c61 := Bool.eq_false_iff.mpr c61
       subst c61
       have H1 : (impl_ReqOk.j1 kj2 true a0_0 a0_1 a0_2 l0_3 l0_4 a0_5) = some r := by rw [if_neg (show ¬ (false = true) by decide)] at H; exact H
       clear H
       have H := H1
       clear H1
       have H' := aM H
       clear H
       have hnb72 := NB153_160.out
       have hnc72 := NB160_153.out
       have hnb73 := NB153_161.out
       have hnc73 := NB161_153.out
       have hnb74 := NB153_162.out
       have hnc74 := NB162_153.out
       obtain ⟨hcz75_0, hfz75_0, hcz75_1, hfz75_1, hcz75_2, hfz75_2, hcz75_3, hfz75_3, hcz75_4, hfz75_4, hcz75_5, hfz75_5⟩ := bk6 BK153.out
       go_wp2_with (first | ((with_reducible refine gate_callee (f := 64) rfl ?_); refine gL (some 51) rfl rfl Try.func64 (by kernel_rfl) rfl #[.int .i64 a0_1] rfl ?_; (with_reducible refine (impl_isWord.calls a0_1 true _ A58.out).mono ?_); rintro e w' ⟨rfl, ⟨nd, rfl⟩⟩; refine ⟨_, rfl, ?_⟩) | (go_at_call 64; (with_reducible refine (impl_isWord.calls a0_5 false _ A60.out).mono ?_); rintro e w' ⟨rfl, ⟨nd, rfl⟩⟩))
       go_meet
       case rel => exact ⟨_, (true), (by first | rfl | (simp; done) | (simp [*]; done)), H', ⟨by have := HJ2.out; first | omega | exact Nat.le_refl _⟩, ⟨kX BK153.out⟩, ⟨kX BK160.out⟩, ⟨kX BK161.out⟩, ⟨kX BK162.out⟩, ⟨bS HB.out⟩⟩
     ·replace c59 := Bool.eq_false_iff.mpr c59
      subst c59
      have H1 : (impl_ReqOk.j1 kj2 true a0_0 a0_1 a0_2 l0_3 l0_4 a0_5) = some r := by rw [if_neg (show ¬ (false = true) by decide)] at H; exact H
      clear H
      have H := H1
      clear H1
      have H' := aM H
      clear H
      have hnb76 := NB153_160.out
      have hnc76 := NB160_153.out
      have hnb77 := NB153_161.out
      have hnc77 := NB161_153.out
      have hnb78 := NB153_162.out
      have hnc78 := NB162_153.out
      obtain ⟨hcz79_0, hfz79_0, hcz79_1, hfz79_1, hcz79_2, hfz79_2, hcz79_3, hfz79_3, hcz79_4, hfz79_4, hcz79_5, hfz79_5⟩ := bk6 BK153.out
      go_wp2_with (first | ((with_reducible refine gate_callee (f := 64) rfl ?_); refine gL (some 51) rfl rfl Try.func64 (by kernel_rfl) rfl #[.int .i64 a0_1] rfl ?_; (with_reducible refine (impl_isWord.calls a0_1 false _ A58.out).mono ?_); rintro e w' ⟨rfl, ⟨nd, rfl⟩⟩; refine ⟨_, rfl, ?_⟩))
      go_meet
      case rel => exact ⟨_, (true), (by first | rfl | (simp; done) | (simp [*]; done)), H', ⟨by have := HJ2.out; first | omega | exact Nat.le_refl _⟩, ⟨kX BK153.out⟩, ⟨kX BK160.out⟩, ⟨kX BK161.out⟩, ⟨kX BK162.out⟩, ⟨bS HB.out⟩⟩
    case rest =>
     clear HC57
     try clear c1
     try clear c2
     try clear p2
     try clear c3
     try clear c4
     try clear c5
     try clear c6
     try clear c9
     try clear c10
     try clear c11
     try clear c12
     try clear c14
     try clear c15
     try clear c17
     try clear c20
     try clear c22
     try clear c24
     try clear c26
     try clear c27
     try clear c28
     try clear c30
     try clear c31
     try clear c33
     try clear c36
     try clear c37
     try clear c38
     try clear c40
     try clear c41
     try clear c43
     try clear c45
     try clear c46
     try clear c47
     try clear c49
     try clear c50
     try clear c52
     try clear c53
     try clear c54
     try clear c56
     try clear hcz13_0
     try clear hcz13_1
     try clear hcz16_0
     try clear hcz16_1
     try clear hcz18_0
     try clear hcz18_1
     try clear hcz29_0
     try clear hcz29_1
     try clear hcz29_2
     try clear hcz29_3
     try clear hcz29_4
     try clear hcz29_5
     try clear hcz32_0
     try clear hcz32_1
     try clear hcz34_0
     try clear hcz34_1
     try clear hcz35_0
     try clear hcz35_1
     try clear hcz39_0
     try clear hcz39_1
     try clear hcz39_2
     try clear hcz39_3
     try clear hcz39_4
     try clear hcz39_5
     try clear hcz42_0
     try clear hcz42_1
     try clear hcz44_0
     try clear hcz44_1
     try clear hcz48_0
     try clear hcz48_1
     try clear hcz48_2
     try clear hcz48_3
     try clear hcz48_4
     try clear hcz48_5
     try clear hcz51_0
     try clear hcz51_1
     try clear hcz55_0
     try clear hcz55_1
     try clear hcz55_2
     try clear hcz55_3
     try clear hcz55_4
     try clear hcz55_5
     try clear hcz5_0
     try clear hcz5_1
     try clear hcz5_2
     try clear hcz5_3
     try clear hcz5_4
     try clear hcz5_5
     try clear hfz13_0
     try clear hfz13_1
     try clear hfz16_0
     try clear hfz16_1
     try clear hfz18_0
     try clear hfz18_1
     try clear hfz29_0
     try clear hfz29_1
     try clear hfz29_2
     try clear hfz29_3
     try clear hfz29_4
     try clear hfz29_5
     try clear hfz32_0
     try clear hfz32_1
     try clear hfz34_0
     try clear hfz34_1
     try clear hfz35_0
     try clear hfz35_1
     try clear hfz39_0
     try clear hfz39_1
     try clear hfz39_2
     try clear hfz39_3
     try clear hfz39_4
     try clear hfz39_5
     try clear hfz42_0
     try clear hfz42_1
     try clear hfz44_0
     try clear hfz44_1
     try clear hfz48_0
     try clear hfz48_1
     try clear hfz48_2
     try clear hfz48_3
     try clear hfz48_4
     try clear hfz48_5
     try clear hfz51_0
     try clear hfz51_1
     try clear hfz55_0
     try clear hfz55_1
     try clear hfz55_2
     try clear hfz55_3
     try clear hfz55_4
     try clear hfz55_5
     try clear hfz5_0
     try clear hfz5_1
     try clear hfz5_2
     try clear hfz5_3
     try clear hfz5_4
     try clear hfz5_5
     try clear p2
     obtain ⟨kq, x72_56, rfl, HA, HJ56, BK153, BK160, BK161, BK162, HB⟩ := hcut
     cases kq with
     | zero => exact absurd HA.out (by simp [impl_ReqOk.j1])
     | succ kj56 =>
      have H := HA.out
      clear HA
      simp only [impl_ReqOk.j1] at H
      by_cases c80 : x72_56 = true
      ·subst c80
       have H1 : (some false) = some r := by rw [if_pos rfl] at H; exact H
       clear H
       have H := H1
       clear H1
       obtain rfl := Option.some.inj H
       go_wp2
       go_ret
       exact ⟨by first | rfl | (simp [errW_none, errW_some] <;> rfl) | (simp [*, errW_none, errW_some] <;> rfl), bS HB.out⟩
      ·replace c80 := Bool.eq_false_iff.mpr c80
       subst c80
       have H1 : (if a0_0 = 23 then ((impl_written.f a0_0 a0_1 a0_2 l0_3 l0_4 a0_5).bind fun t170 => (some (decide ((wrap64 (a0_5 + t170)) ≤ 65536)))) else (if a0_5 = 0 then ((impl_written.f a0_0 a0_1 a0_2 l0_3 l0_4 a0_5).bind fun t171 => (some (decide ((wrap64 (a0_1 + t171)) ≤ 65536)))) else (some false))) = some r := by rw [if_neg (show ¬ (false = true) by decide)] at H; exact H
       clear H
       have H := H1
       clear H1
       by_cases c81 : a0_0 = 23
       ·rw [if_pos c81] at H
        have c81b0 : (a0_0 == 23) = true := beq_iff_eq.mpr c81
        have c81b1 : (a0_0 != 23) = false := bne_eq_false_iff_eq.mpr c81
        clear c81
        replace H := Option.bind_eq_some_iff.mp H
        obtain ⟨t170, A820, H⟩ := H
        replace H : (some (decide ((wrap64 (a0_5 + t170)) ≤ 65536))) = some r := H
        have A82 := aM A820
        clear A820
        obtain rfl := Option.some.inj H
        have hnb83 := NB153_160.out
        have hnc83 := NB160_153.out
        have hnb84 := NB153_161.out
        have hnc84 := NB161_153.out
        have hnb85 := NB153_162.out
        have hnc85 := NB162_153.out
        obtain ⟨hcz86_0, hfz86_0, hcz86_1, hfz86_1, hcz86_2, hfz86_2, hcz86_3, hfz86_3, hcz86_4, hfz86_4, hcz86_5, hfz86_5⟩ := bk6 BK153.out
        try go_wp2
        have n0_ := aM (blk_drew BK153.out)
        have n1_ := aM (blk_drew BK160.out)
        have n2_ := aM (blk_drew BK161.out)
        have n3_ := aM (blk_drew BK162.out)
        have n4_ := aM (below_drew1 HB.out)
        clear BK153
        clear BK160
        clear BK161
        clear BK162
        clear HB
        have BK153 := n0_
        have BK160 := n1_
        have BK161 := n2_
        have BK162 := n3_
        have HB := n4_
        clear n0_ n1_ n2_ n3_ n4_
        refine start_ (n := 7) (S := fun w' => w'.cell? ⟨gb153, 0, none⟩ = some (.int .i64 a0_0) ∧ w'.cell? ⟨gb153, 1, none⟩ = some (.int .i64 a0_1) ∧ w'.cell? ⟨gb153, 2, none⟩ = some (.int .i64 a0_2) ∧ w'.cell? ⟨gb153, 3, none⟩ = some (.slice A0_3 l0_3.length c0_3) ∧ w'.cell? ⟨gb153, 4, none⟩ = some (.slice A0_4 l0_4.length c0_4) ∧ w'.cell? ⟨gb153, 5, none⟩ = some (.int .i64 a0_5)) (ds := []) #[false, false, false, false, false, false, false] (by kernel_rfl) rfl rfl ⟨(blk_cell BK153.out 0).trans rfl, (blk_cell BK153.out 1).trans rfl, (blk_cell BK153.out 2).trans rfl, (blk_cell BK153.out 3).trans rfl, (blk_cell BK153.out 4).trans rfl, (blk_cell BK153.out 5).trans rfl⟩ (fun hHeld => ?_)
        generalize wc.drew = w87 at BK153 BK160 BK161 BK162 HB hHeld ⊢
        refine pure_ (i := 0) (N := some 76) (v := ?_) (a' := ?_) #[true, false, false, false, false, false, false] rfl rfl (by kernel_rfl) (fun _ _ _ h => h) (Or.inl ⟨by rfl, ?_⟩) ?_ ?_
        rotate_left
        ·intro w'
         go_simp
         with_reducible rfl
        rotate_left
        ·simp only [Act.put, List.setIfInBounds_toArray, List.set_cons_zero, List.set_cons_succ, i64_w, i32_w]
         rfl
        refine take_ (i := 1) (N := some 77) (v := ?_) (a' := ?_) #[true, true, false, false, false, false, false] rfl rfl (by kernel_rfl) (fun _ _ _ h => h) (Or.inl ⟨by rfl, ?_⟩) hHeld ?_ ?_
        rotate_left
        ·rintro w' ⟨s0, s1, s2, s3, s4, s5⟩
         go_simp
         with_reducible rfl
        rotate_left
        ·simp only [Act.put, List.setIfInBounds_toArray, List.set_cons_zero, List.set_cons_succ, i64_w, i32_w]
         rfl
        refine take_ (i := 2) (N := some 78) (v := ?_) (a' := ?_) #[true, true, true, false, false, false, false] rfl rfl (by kernel_rfl) (fun _ _ _ h => h) (Or.inl ⟨by rfl, ?_⟩) hHeld ?_ ?_
        rotate_left
        ·rintro w' ⟨s0, s1, s2, s3, s4, s5⟩
         go_simp
         with_reducible rfl
        rotate_left
        ·simp only [Act.put, List.setIfInBounds_toArray, List.set_cons_zero, List.set_cons_succ, i64_w, i32_w]
         rfl
        refine one_ (i := 3) (N := some 79) #[true, true, true, true, false, false, false] rfl rfl (by kernel_rfl) (by decide) (fun K hK => ?_)
        refine goes_ Try.func73 (by kernel_rfl) rfl #[.agg #[.int .i64 a0_0, .int .i64 a0_1, .int .i64 a0_2, .slice A0_3 l0_3.length c0_3, .slice A0_4 l0_4.length c0_4, .int .i64 a0_5]] (by rfl) rfl rfl (by (try simp only [List.map_toArray, List.map_cons, List.map_nil]); first | done | rfl | (simp only [List.length_drop, List.length_take]; rfl)) ?_
        with_reducible refine (impl_written.calls a0_0 a0_1 a0_2 _ _ l0_3 _ _ l0_4 a0_5 t170 _ ?side1 ?side2 ?side3 ?side4 A82.out).mono ?_
        (case side1 => exact cB HR0_3.out HB.out)
        (case side2 => exact HC0_3.out)
        (case side3 => exact cB HR0_4.out HB.out)
        (case side4 => exact HC0_4.out)
        rintro e w88 ⟨rfl, hb⟩
        refine ⟨_, rfl, ?_⟩
        have n0_ := aM (kB BK153.out hb)
        have n1_ := aM (kB BK160.out hb)
        have n2_ := aM (kB BK161.out hb)
        have n3_ := aM (kB BK162.out hb)
        have n4_ := aM (below_step (bS HB.out) hb)
        clear BK153
        clear BK160
        clear BK161
        clear BK162
        clear HB
        have BK153 := n0_
        have BK160 := n1_
        have BK161 := n2_
        have BK162 := n3_
        have HB := n4_
        clear n0_ n1_ n2_ n3_ n4_
        (try clear hb)
        (try clear hb2)
        (try clear hk)
        (try clear hi)
        refine hK.out _ _ ⟨(blk_cell BK153.out 0).trans rfl, (blk_cell BK153.out 1).trans rfl, (blk_cell BK153.out 2).trans rfl, (blk_cell BK153.out 3).trans rfl, (blk_cell BK153.out 4).trans rfl, (blk_cell BK153.out 5).trans rfl⟩ (fun hHeld => ?_)
        clear hK K
        refine norm_ (a' := ?_) ?_ ?_
        rotate_left
        ·show Act.put _ (some 79) _ = _
         simp only [Act.put, List.setIfInBounds_toArray, List.set_cons_zero, List.set_cons_succ, i64_w, i32_w]
         rfl
        refine pure_ (i := 4) (N := some 80) (v := ?_) (a' := ?_) #[true, true, true, true, true, false, false] rfl rfl (by kernel_rfl) (fun _ _ _ h => h) (Or.inl ⟨by rfl, ?_⟩) ?_ ?_
        rotate_left
        ·intro w'
         go_simp
         with_reducible rfl
        rotate_left
        ·simp only [Act.put, List.setIfInBounds_toArray, List.set_cons_zero, List.set_cons_succ, i64_w, i32_w]
         rfl
        refine pure_ (i := 5) (N := some 81) (v := ?_) (a' := ?_) #[true, true, true, true, true, true, false] rfl rfl (by kernel_rfl) (fun _ _ _ h => h) (Or.inl ⟨by rfl, ?_⟩) ?_ ?_
        rotate_left
        ·intro w'
         go_simp
         with_reducible rfl
        rotate_left
        ·simp only [Act.put, List.setIfInBounds_toArray, List.set_cons_zero, List.set_cons_succ, i64_w, i32_w]
         rfl
        refine pure_ (i := 6) (N := some 2) (v := ?_) (a' := ?_) #[true, true, true, true, true, true, true] rfl rfl (by kernel_rfl) (fun _ _ _ h => h) (Or.inl ⟨by rfl, ?_⟩) ?_ ?_
        rotate_left
        ·intro w'
         go_simp
         with_reducible rfl
        rotate_left
        ·simp only [Act.put, List.setIfInBounds_toArray, List.set_cons_zero, List.set_cons_succ, i64_w, i32_w]
         rfl
        refine done_ (by kernel_rfl) ?_
        try go_wp2
        go_ret
        exact ⟨by first | rfl | (simp [errW_none, errW_some] <;> rfl) | (simp [*, errW_none, errW_some] <;> rfl), bS HB.out⟩
       ·rw [if_neg c81] at H
        have c81b0 : (a0_0 == 23) = false := beq_eq_false_iff_ne.mpr c81
        have c81b1 : (a0_0 != 23) = true := bne_iff_ne.mpr c81
        by_cases c89 : a0_5 = 0
        ·rw [if_pos c89] at H
         have c89b0 : (a0_5 == 0) = true := beq_iff_eq.mpr c89
         have c89b1 : (a0_5 != 0) = false := bne_eq_false_iff_eq.mpr c89
         clear c89
         replace H := Option.bind_eq_some_iff.mp H
         obtain ⟨t171, A900, H⟩ := H
         replace H : (some (decide ((wrap64 (a0_1 + t171)) ≤ 65536))) = some r := H
         have A90 := aM A900
         clear A900
         obtain rfl := Option.some.inj H
         have hnb91 := NB153_160.out
         have hnc91 := NB160_153.out
         have hnb92 := NB153_161.out
         have hnc92 := NB161_153.out
         have hnb93 := NB153_162.out
         have hnc93 := NB162_153.out
         obtain ⟨hcz94_0, hfz94_0, hcz94_1, hfz94_1, hcz94_2, hfz94_2, hcz94_3, hfz94_3, hcz94_4, hfz94_4, hcz94_5, hfz94_5⟩ := bk6 BK153.out
         try go_wp2
         have n0_ := aM (blk_drew BK153.out)
         have n1_ := aM (blk_drew BK160.out)
         have n2_ := aM (blk_drew BK161.out)
         have n3_ := aM (blk_drew BK162.out)
         have n4_ := aM (below_drew1 HB.out)
         clear BK153
         clear BK160
         clear BK161
         clear BK162
         clear HB
         have BK153 := n0_
         have BK160 := n1_
         have BK161 := n2_
         have BK162 := n3_
         have HB := n4_
         clear n0_ n1_ n2_ n3_ n4_
         refine start_ (n := 12) (S := fun w' => w'.cell? ⟨gb153, 0, none⟩ = some (.int .i64 a0_0) ∧ w'.cell? ⟨gb153, 1, none⟩ = some (.int .i64 a0_1) ∧ w'.cell? ⟨gb153, 2, none⟩ = some (.int .i64 a0_2) ∧ w'.cell? ⟨gb153, 3, none⟩ = some (.slice A0_3 l0_3.length c0_3) ∧ w'.cell? ⟨gb153, 4, none⟩ = some (.slice A0_4 l0_4.length c0_4) ∧ w'.cell? ⟨gb153, 5, none⟩ = some (.int .i64 a0_5)) (ds := []) #[false, false, false, false, false, false, false, false, false, false, false, false] (by kernel_rfl) rfl rfl ⟨(blk_cell BK153.out 0).trans rfl, (blk_cell BK153.out 1).trans rfl, (blk_cell BK153.out 2).trans rfl, (blk_cell BK153.out 3).trans rfl, (blk_cell BK153.out 4).trans rfl, (blk_cell BK153.out 5).trans rfl⟩ (fun hHeld => ?_); refine with_tabW impl_ReqOk.tab8 impl_ReqOk.bits8 (fun HT_ HW_ => ?_)
         generalize wc.drew = w95 at BK153 BK160 BK161 BK162 HB hHeld ⊢
         refine pure_ (i := 0) (N := some 82) (v := ?_) (a' := ?_) #[true, false, false, false, false, false, false, false, false, false, false, false] rfl rfl (any_of HT_.out (by kernel_rfl)) (fun _ _ _ h => h) (Or.inl ⟨by rfl, ?_⟩) ?_ ?_
         rotate_left
         ·intro w'
          go_simp
          with_reducible rfl
         rotate_left
         ·simp only [Act.put, List.setIfInBounds_toArray, List.set_cons_zero, List.set_cons_succ, i64_w, i32_w]
          rfl
         refine take_ (i := 1) (N := some 83) (v := ?_) (a' := ?_) #[true, true, false, false, false, false, false, false, false, false, false, false] rfl rfl (take_ofW HT_.out HW_.out (by kernel_rfl)) (fun _ _ _ h => h) (Or.inl ⟨by rfl, ?_⟩) hHeld ?_ ?_
         rotate_left
         ·rintro w' ⟨s0, s1, s2, s3, s4, s5⟩
          go_simp
          with_reducible rfl
         rotate_left
         ·simp only [Act.put, List.setIfInBounds_toArray, List.set_cons_zero, List.set_cons_succ, i64_w, i32_w]
          rfl
         refine pure_ (i := 2) (N := some 84) (v := ?_) (a' := ?_) #[true, true, true, false, false, false, false, false, false, false, false, false] rfl rfl (any_of HT_.out (by kernel_rfl)) (fun _ _ _ h => h) (Or.inl ⟨by rfl, ?_⟩) ?_ ?_
         rotate_left
         ·intro w'
          go_simp
          with_reducible rfl
         rotate_left
         ·simp only [Act.put, List.setIfInBounds_toArray, List.set_cons_zero, List.set_cons_succ, i64_w, i32_w]
          rfl
         refine pure_ (i := 3) (N := some 85) (v := ?_) (a' := ?_) #[true, true, true, true, false, false, false, false, false, false, false, false] rfl rfl (any_of HT_.out (by kernel_rfl)) (fun _ _ _ h => h) (Or.inl ⟨by rfl, ?_⟩) ?_ ?_
         rotate_left
         ·intro w'
          go_simp
          with_reducible rfl
         rotate_left
         ·simp only [Act.put, List.setIfInBounds_toArray, List.set_cons_zero, List.set_cons_succ, i64_w, i32_w]
          rfl
         refine pure_ (i := 4) (N := some 86) (v := ?_) (a' := ?_) #[true, true, true, true, true, false, false, false, false, false, false, false] rfl rfl (any_of HT_.out (by kernel_rfl)) (fun _ _ _ h => h) (Or.inl ⟨by rfl, ?_⟩) ?_ ?_
         rotate_left
         ·intro w'
          go_simp
          with_reducible rfl
         rotate_left
         ·simp only [Act.put, List.setIfInBounds_toArray, List.set_cons_zero, List.set_cons_succ, i64_w, i32_w]
          rfl
         refine take_ (i := 5) (N := some 87) (v := ?_) (a' := ?_) #[true, true, true, true, true, true, false, false, false, false, false, false] rfl rfl (take_ofW HT_.out HW_.out (by kernel_rfl)) (fun _ _ _ h => h) (Or.inl ⟨by rfl, ?_⟩) hHeld ?_ ?_
         rotate_left
         ·rintro w' ⟨s0, s1, s2, s3, s4, s5⟩
          go_simp
          with_reducible rfl
         rotate_left
         ·simp only [Act.put, List.setIfInBounds_toArray, List.set_cons_zero, List.set_cons_succ, i64_w, i32_w]
          rfl
         refine take_ (i := 6) (N := some 88) (v := ?_) (a' := ?_) #[true, true, true, true, true, true, true, false, false, false, false, false] rfl rfl (take_ofW HT_.out HW_.out (by kernel_rfl)) (fun _ _ _ h => h) (Or.inl ⟨by rfl, ?_⟩) hHeld ?_ ?_
         rotate_left
         ·rintro w' ⟨s0, s1, s2, s3, s4, s5⟩
          go_simp
          with_reducible rfl
         rotate_left
         ·simp only [Act.put, List.setIfInBounds_toArray, List.set_cons_zero, List.set_cons_succ, i64_w, i32_w]
          rfl
         refine one_ (i := 7) (N := some 89) #[true, true, true, true, true, true, true, true, false, false, false, false] rfl rfl (one_of HT_.out (by kernel_rfl)) (by decide) (fun K hK => ?_)
         refine goes_ Try.func73 (by kernel_rfl) rfl #[.agg #[.int .i64 a0_0, .int .i64 a0_1, .int .i64 a0_2, .slice A0_3 l0_3.length c0_3, .slice A0_4 l0_4.length c0_4, .int .i64 a0_5]] (by rfl) rfl rfl (by (try simp only [List.map_toArray, List.map_cons, List.map_nil]); first | done | rfl | (simp only [List.length_drop, List.length_take]; rfl)) ?_
         with_reducible refine (impl_written.calls a0_0 a0_1 a0_2 _ _ l0_3 _ _ l0_4 a0_5 t171 _ ?side1 ?side2 ?side3 ?side4 A90.out).mono ?_
         (case side1 => exact cB HR0_3.out HB.out)
         (case side2 => exact HC0_3.out)
         (case side3 => exact cB HR0_4.out HB.out)
         (case side4 => exact HC0_4.out)
         rintro e w96 ⟨rfl, hb⟩
         refine ⟨_, rfl, ?_⟩
         have n0_ := aM (kB BK153.out hb)
         have n1_ := aM (kB BK160.out hb)
         have n2_ := aM (kB BK161.out hb)
         have n3_ := aM (kB BK162.out hb)
         have n4_ := aM (below_step (bS HB.out) hb)
         clear BK153
         clear BK160
         clear BK161
         clear BK162
         clear HB
         have BK153 := n0_
         have BK160 := n1_
         have BK161 := n2_
         have BK162 := n3_
         have HB := n4_
         clear n0_ n1_ n2_ n3_ n4_
         (try clear hb)
         (try clear hb2)
         (try clear hk)
         (try clear hi)
         refine hK.out _ _ ⟨(blk_cell BK153.out 0).trans rfl, (blk_cell BK153.out 1).trans rfl, (blk_cell BK153.out 2).trans rfl, (blk_cell BK153.out 3).trans rfl, (blk_cell BK153.out 4).trans rfl, (blk_cell BK153.out 5).trans rfl⟩ (fun hHeld => ?_)
         clear hK K
         refine norm_ (a' := ?_) ?_ ?_
         rotate_left
         ·show Act.put _ (some 89) _ = _
          simp only [Act.put, List.setIfInBounds_toArray, List.set_cons_zero, List.set_cons_succ, i64_w, i32_w]
          rfl
         refine pure_ (i := 8) (N := some 90) (v := ?_) (a' := ?_) #[true, true, true, true, true, true, true, true, true, false, false, false] rfl rfl (any_of HT_.out (by kernel_rfl)) (fun _ _ _ h => h) (Or.inl ⟨by rfl, ?_⟩) ?_ ?_
         rotate_left
         ·intro w'
          go_simp
          with_reducible rfl
         rotate_left
         ·simp only [Act.put, List.setIfInBounds_toArray, List.set_cons_zero, List.set_cons_succ, i64_w, i32_w]
          rfl
         refine pure_ (i := 9) (N := some 91) (v := ?_) (a' := ?_) #[true, true, true, true, true, true, true, true, true, true, false, false] rfl rfl (any_of HT_.out (by kernel_rfl)) (fun _ _ _ h => h) (Or.inl ⟨by rfl, ?_⟩) ?_ ?_
         rotate_left
         ·intro w'
          go_simp
          with_reducible rfl
         rotate_left
         ·simp only [Act.put, List.setIfInBounds_toArray, List.set_cons_zero, List.set_cons_succ, i64_w, i32_w]
          rfl
         refine pure_ (i := 10) (N := some 92) (v := ?_) (a' := ?_) #[true, true, true, true, true, true, true, true, true, true, true, false] rfl rfl (any_of HT_.out (by kernel_rfl)) (fun _ _ _ h => h) (Or.inl ⟨by rfl, ?_⟩) ?_ ?_
         rotate_left
         ·intro w'
          go_simp
          with_reducible rfl
         rotate_left
         ·simp only [Act.put, List.setIfInBounds_toArray, List.set_cons_zero, List.set_cons_succ, i64_w, i32_w]
          rfl
         refine pure_ (i := 11) (N := some 2) (v := ?_) (a' := ?_) #[true, true, true, true, true, true, true, true, true, true, true, true] rfl rfl (any_of HT_.out (by kernel_rfl)) (fun _ _ _ h => h) (Or.inl ⟨by rfl, ?_⟩) ?_ ?_
         rotate_left
         ·intro w'
          go_simp
          with_reducible rfl
         rotate_left
         ·simp only [Act.put, List.setIfInBounds_toArray, List.set_cons_zero, List.set_cons_succ, i64_w, i32_w]
          rfl
         refine done_ (done_of HT_.out (by kernel_rfl)) ?_
         try go_wp2
         go_ret
         exact ⟨by first | rfl | (simp [errW_none, errW_some] <;> rfl) | (simp [*, errW_none, errW_some] <;> rfl), bS HB.out⟩
        ·rw [if_neg c89] at H
         have c89b0 : (a0_5 == 0) = false := beq_eq_false_iff_ne.mpr c89
         have c89b1 : (a0_5 != 0) = true := bne_iff_ne.mpr c89
         obtain rfl := Option.some.inj H
         have hnb97 := NB153_160.out
         have hnc97 := NB160_153.out
         have hnb98 := NB153_161.out
         have hnc98 := NB161_153.out
         have hnb99 := NB153_162.out
         have hnc99 := NB162_153.out
         obtain ⟨hcz100_0, hfz100_0, hcz100_1, hfz100_1, hcz100_2, hfz100_2, hcz100_3, hfz100_3, hcz100_4, hfz100_4, hcz100_5, hfz100_5⟩ := bk6 BK153.out
         try go_wp2
         have n0_ := aM (blk_drew BK153.out)
         have n1_ := aM (blk_drew BK160.out)
         have n2_ := aM (blk_drew BK161.out)
         have n3_ := aM (blk_drew BK162.out)
         have n4_ := aM (below_drew1 HB.out)
         clear BK153
         clear BK160
         clear BK161
         clear BK162
         clear HB
         have BK153 := n0_
         have BK160 := n1_
         have BK161 := n2_
         have BK162 := n3_
         have HB := n4_
         clear n0_ n1_ n2_ n3_ n4_
         refine start_ (n := 12) (S := fun w' => w'.cell? ⟨gb153, 0, none⟩ = some (.int .i64 a0_0) ∧ w'.cell? ⟨gb153, 1, none⟩ = some (.int .i64 a0_1) ∧ w'.cell? ⟨gb153, 2, none⟩ = some (.int .i64 a0_2) ∧ w'.cell? ⟨gb153, 3, none⟩ = some (.slice A0_3 l0_3.length c0_3) ∧ w'.cell? ⟨gb153, 4, none⟩ = some (.slice A0_4 l0_4.length c0_4) ∧ w'.cell? ⟨gb153, 5, none⟩ = some (.int .i64 a0_5)) (ds := []) #[false, false, false, false, false, false, false, false, false, false, false, false] (by kernel_rfl) rfl rfl ⟨(blk_cell BK153.out 0).trans rfl, (blk_cell BK153.out 1).trans rfl, (blk_cell BK153.out 2).trans rfl, (blk_cell BK153.out 3).trans rfl, (blk_cell BK153.out 4).trans rfl, (blk_cell BK153.out 5).trans rfl⟩ (fun hHeld => ?_); refine with_tabW impl_ReqOk.tab8 impl_ReqOk.bits8 (fun HT_ HW_ => ?_)
         generalize wc.drew = w101 at BK153 BK160 BK161 BK162 HB hHeld ⊢
         refine pure_ (i := 0) (N := some 82) (v := ?_) (a' := ?_) #[true, false, false, false, false, false, false, false, false, false, false, false] rfl rfl (any_of HT_.out (by kernel_rfl)) (fun _ _ _ h => h) (Or.inl ⟨by rfl, ?_⟩) ?_ ?_
         rotate_left
         ·intro w'
          go_simp
          with_reducible rfl
         rotate_left
         ·simp only [Act.put, List.setIfInBounds_toArray, List.set_cons_zero, List.set_cons_succ, i64_w, i32_w]
          rfl
         refine take_ (i := 1) (N := some 83) (v := ?_) (a' := ?_) #[true, true, false, false, false, false, false, false, false, false, false, false] rfl rfl (take_ofW HT_.out HW_.out (by kernel_rfl)) (fun _ _ _ h => h) (Or.inl ⟨by rfl, ?_⟩) hHeld ?_ ?_
         rotate_left
         ·rintro w' ⟨s0, s1, s2, s3, s4, s5⟩
          go_simp
          with_reducible rfl
         rotate_left
         ·simp only [Act.put, List.setIfInBounds_toArray, List.set_cons_zero, List.set_cons_succ, i64_w, i32_w]
          rfl
         refine pure_ (i := 2) (N := some 84) (v := ?_) (a' := ?_) #[true, true, true, false, false, false, false, false, false, false, false, false] rfl rfl (any_of HT_.out (by kernel_rfl)) (fun _ _ _ h => h) (Or.inl ⟨by rfl, ?_⟩) ?_ ?_
         rotate_left
         ·intro w'
          go_simp
          with_reducible rfl
         rotate_left
         ·simp only [Act.put, List.setIfInBounds_toArray, List.set_cons_zero, List.set_cons_succ, i64_w, i32_w]
          rfl
         refine pure_ (i := 3) (N := some 85) (v := ?_) (a' := ?_) #[true, true, true, true, false, false, false, false, false, false, false, false] rfl rfl (any_of HT_.out (by kernel_rfl)) (fun _ _ _ h => h) (Or.inl ⟨by rfl, ?_⟩) ?_ ?_
         rotate_left
         ·intro w'
          go_simp
          with_reducible rfl
         rotate_left
         ·simp only [Act.put, List.setIfInBounds_toArray, List.set_cons_zero, List.set_cons_succ, i64_w, i32_w]
          rfl
         refine pure_ (i := 4) (N := some 86) (v := undef) (a' := ?_) #[true, true, true, true, true, false, false, false, false, false, false, false] rfl rfl (any_of HT_.out (by kernel_rfl)) (fun _ _ _ h => h) (Or.inr ⟨by rfl, rfl⟩) ?_ ?_
         rotate_left
         ·simp only [Act.put, List.setIfInBounds_toArray, List.set_cons_zero, List.set_cons_succ, i64_w, i32_w]
          rfl
         refine pure_ (i := 5) (N := some 87) (v := undef) (a' := ?_) #[true, true, true, true, true, true, false, false, false, false, false, false] rfl rfl (any_of HT_.out (by kernel_rfl)) (fun _ _ _ h => h) (Or.inr ⟨by rfl, rfl⟩) ?_ ?_
         rotate_left
         ·simp only [Act.put, List.setIfInBounds_toArray, List.set_cons_zero, List.set_cons_succ, i64_w, i32_w]
          rfl
         refine pure_ (i := 6) (N := some 88) (v := undef) (a' := ?_) #[true, true, true, true, true, true, true, false, false, false, false, false] rfl rfl (any_of HT_.out (by kernel_rfl)) (fun _ _ _ h => h) (Or.inr ⟨by rfl, rfl⟩) ?_ ?_
         rotate_left
         ·simp only [Act.put, List.setIfInBounds_toArray, List.set_cons_zero, List.set_cons_succ, i64_w, i32_w]
          rfl
         refine pure_ (i := 7) (N := some 89) (v := undef) (a' := ?_) #[true, true, true, true, true, true, true, true, false, false, false, false] rfl rfl (any_of HT_.out (by kernel_rfl)) (fun _ _ _ h => h) (Or.inr ⟨by rfl, rfl⟩) ?_ ?_
         rotate_left
         ·simp only [Act.put, List.setIfInBounds_toArray, List.set_cons_zero, List.set_cons_succ, i64_w, i32_w]
          rfl
         refine pure_ (i := 8) (N := some 90) (v := undef) (a' := ?_) #[true, true, true, true, true, true, true, true, true, false, false, false] rfl rfl (any_of HT_.out (by kernel_rfl)) (fun _ _ _ h => h) (Or.inr ⟨by rfl, rfl⟩) ?_ ?_
         rotate_left
         ·simp only [Act.put, List.setIfInBounds_toArray, List.set_cons_zero, List.set_cons_succ, i64_w, i32_w]
          rfl
         refine pure_ (i := 9) (N := some 91) (v := undef) (a' := ?_) #[true, true, true, true, true, true, true, true, true, true, false, false] rfl rfl (any_of HT_.out (by kernel_rfl)) (fun _ _ _ h => h) (Or.inr ⟨by rfl, rfl⟩) ?_ ?_
         rotate_left
         ·simp only [Act.put, List.setIfInBounds_toArray, List.set_cons_zero, List.set_cons_succ, i64_w, i32_w]
          rfl
         refine pure_ (i := 10) (N := some 92) (v := ?_) (a' := ?_) #[true, true, true, true, true, true, true, true, true, true, true, false] rfl rfl (any_of HT_.out (by kernel_rfl)) (fun _ _ _ h => h) (Or.inl ⟨by rfl, ?_⟩) ?_ ?_
         rotate_left
         ·intro w'
          go_simp
          with_reducible rfl
         rotate_left
         ·simp only [Act.put, List.setIfInBounds_toArray, List.set_cons_zero, List.set_cons_succ, i64_w, i32_w]
          rfl
         refine pure_ (i := 11) (N := some 2) (v := ?_) (a' := ?_) #[true, true, true, true, true, true, true, true, true, true, true, true] rfl rfl (any_of HT_.out (by kernel_rfl)) (fun _ _ _ h => h) (Or.inl ⟨by rfl, ?_⟩) ?_ ?_
         rotate_left
         ·intro w'
          go_simp
          with_reducible rfl
         rotate_left
         ·simp only [Act.put, List.setIfInBounds_toArray, List.set_cons_zero, List.set_cons_succ, i64_w, i32_w]
          rfl
         refine done_ (done_of HT_.out (by kernel_rfl)) ?_
         try go_wp2
         go_ret
         exact ⟨by first | rfl | (simp [errW_none, errW_some] <;> rfl) | (simp [*, errW_none, errW_some] <;> rfl), bS HB.out⟩
end Go.Proofs.Ytfiplepbmennbaa.G
