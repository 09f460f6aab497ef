/- Contracts of functions, for more than one law: what they compute. -/
import Derived.Test.YtfiplepbmennbaaM
import Derived.Test.YtfiplepbmennbaaProg
import Derived.Test.YtfiplepbmennbaaWMore
import Derived.Test.YtfiplepbmennbaaWRepsOne
import Derived.Test.YtfiplepbmennbaaWTab
import Derived.WalkSpells
import Derived.Test.YtfiplepbmennbaaL
import Derived.Below
import Derived.Deep.Draws
import Derived.Deep.AppendLies
import Derived.Maps.AppendAt
import Derived.OwnWalk
import Derived.Laws.BytesArg
import Derived.Laws.MakeOwn
import Derived.Laws.OwnMore
import Derived.Deep.OwnRows
import Derived.Tactics
import Derived.Lib.ConvBytes
import Derived.Laws.Slices
import Derived.WalkKit
import Derived.KernelRfl
import Derived.RowKit3
import Derived.Deep.LoopGhost
import Derived.Deep.QuietTactic
import Derived.BigQuiet
import Derived.WideLaws
import Derived.Deep.DeepCutAuto
import Derived.Deep.CutBlock
import Derived.Deep.RegionHeld3
import Derived.Laws.Rows
import Derived.Lib.AppendStr
import Derived.ArgAppend
import Derived.Laws.IdiomCopy
import Derived.OrdersHeld
import Derived.Laws.BitsLemmas
import Derived.RowKit
import Derived.Test.YtfiplepbmennbaaWWords
import Derived.Test.YtfiplepbmennbaaWLast
import Derived.Test.YtfiplepbmennbaaWFour
import Derived.Test.YtfiplepbmennbaaWQPut
import Derived.Test.YtfiplepbmennbaaWApart
import Derived.Test.YtfiplepbmennbaaWArr
import Derived.Test.YtfiplepbmennbaaWZeros
import Derived.Test.YtfiplepbmennbaaWFoot
import Derived.Test.YtfiplepbmennbaaWKept
import Derived.Test.YtfiplepbmennbaaWShare
import Derived.Test.YtfiplepbmennbaaWN
import Derived.Test.YtfiplepbmennbaaWFootNe
import Derived.Test.YtfiplepbmennbaaWAt
import Derived.Test.YtfiplepbmennbaaWEqStruct
import Derived.Test.YtfiplepbmennbaaWInv
import Derived.Test.YtfiplepbmennbaaWInvWords
import Derived.Test.YtfiplepbmennbaaWGuard
import Derived.Test.YtfiplepbmennbaaWNEv
import Derived.Test.YtfiplepbmennbaaGAllWords
import Derived.Test.YtfiplepbmennbaaGTakeA
namespace Go.Proofs.Ytfiplepbmennbaa.G
open Go.Proofs.Ytfiplepbmennbaa.K Go Go.RowKit Go.Proofs.YtfiplepbmennbaaW.PrintWords Go.Proofs.YtfiplepbmennbaaW.PrintLast Go.Proofs.YtfiplepbmennbaaW.PrintMore
attribute [local go_sem] max2_int min2_int max_two min_two max_three min_three max_four min_four   -- for this text's walks alone
set_option linter.unusedVariables false
set_option linter.unusedSimpArgs false

/-! ### impl_isWord: function 64 -/
def impl_isWord.f (a0 : Int) : Option (Bool) := (impl_in.f a0 0 65535).bind fun t285 => (some t285)
set_option maxHeartbeats 8000000 in
set_option maxRecDepth 100000 in
theorem impl_isWord.calls (a0 : Int) (r : Bool) (w : World) (h : impl_isWord.f a0 = some r) :
  Calls Try.prog 64 #[.int .i64 a0] w fun e w' => e = .returned (.bool r) ∧ Drawn0 w w' := by
 have H : ((impl_in.f a0 0 65535).bind fun t285 => (some t285)) = some r := h
 clear h
 replace H := Option.bind_eq_some_iff.mp H
 obtain ⟨t285, A20, H⟩ := H
 (try dsimp only at H)
 have A2 := aM A20
 clear A20
 obtain rfl := Option.some.inj H
 go_enter Try.func64, Try.ntmps64
 go_wp2_with (first | ((with_reducible refine gate_callee (f := 62) rfl ?_); refine gL (some 4) rfl rfl Try.func62 (by kernel_rfl) rfl #[.int .i64 a0, .int .i64 0, .int .i64 65535] rfl ?_; (with_reducible refine (impl_in.calls a0 0 65535 t285 _ A2.out).mono ?_); rintro e w' ⟨rfl, ⟨nd, rfl⟩⟩; refine ⟨_, rfl, ?_⟩))
 go_ret
 exact ⟨by first | rfl | (simp; done) | (simp [*]; done), by repeat (first | exact Drawn0.refl _ | apply Drawn0.step)⟩
/-! ### impl_isKind: function 50 -/
def impl_isKind.f (a0 : Int) : Option (Bool) := (impl_in.f a0 1 6).bind fun t280 => (if t280 = true then (some true) else (if a0 = 15 then (some true) else (if a0 = 16 then (some true) else (if a0 = 22 then (some true) else (some (a0 == 23))))))
set_option maxHeartbeats 8000000 in
set_option maxRecDepth 100000 in
theorem impl_isKind.calls (a0 : Int) (r : Bool) (w : World) (h : impl_isKind.f a0 = some r) :
  Calls Try.prog 50 #[.int .i64 a0] w fun e w' => e = .returned (.bool r) ∧ Drawn0 w w' := by
 have H : ((impl_in.f a0 1 6).bind fun t280 => (if t280 = true then (some true) else (if a0 = 15 then (some true) else (if a0 = 16 then (some true) else (if a0 = 22 then (some true) else (some (a0 == 23))))))) = some r := h
 clear h
 replace H := Option.bind_eq_some_iff.mp H
 obtain ⟨t280, A20, H⟩ := H
 (try dsimp only at H)
 have A2 := aM A20
 clear A20
 by_cases c3 : t280 = true
 ·subst c3
  rw [if_pos rfl] at H
  (try dsimp only at H)
  obtain rfl := Option.some.inj H
  go_enter Try.func50, Try.ntmps50
  go_wp2_with (first | ((with_reducible refine gate_callee (f := 62) rfl ?_); refine gL (some 4) rfl rfl Try.func62 (by kernel_rfl) rfl #[.int .i64 a0, .int .i64 1, .int .i64 6] rfl ?_; (with_reducible refine (impl_in.calls a0 1 6 true _ A2.out).mono ?_); rintro e w' ⟨rfl, ⟨nd, rfl⟩⟩; refine ⟨_, rfl, ?_⟩))
  go_ret
  exact ⟨by first | rfl | (simp; done) | (simp [*]; done), by repeat (first | exact Drawn0.refl _ | apply Drawn0.step)⟩
 ·replace c3 := Bool.eq_false_iff.mpr c3
  subst c3
  rw [if_neg (show ¬ (false = true) by decide)] at H
  (try dsimp only at H)
  by_cases c4 : a0 = 15
  ·rw [if_pos c4] at H
   have c4b0 : (a0 == 15) = true := beq_iff_eq.mpr c4
   have c4b1 : (a0 != 15) = false := bne_eq_false_iff_eq.mpr c4
   clear c4
   obtain rfl := Option.some.inj H
   go_enter Try.func50, Try.ntmps50
   go_wp2_with (first | ((with_reducible refine gate_callee (f := 62) rfl ?_); refine gL (some 4) rfl rfl Try.func62 (by kernel_rfl) rfl #[.int .i64 a0, .int .i64 1, .int .i64 6] rfl ?_; (with_reducible refine (impl_in.calls a0 1 6 false _ A2.out).mono ?_); rintro e w' ⟨rfl, ⟨nd, rfl⟩⟩; refine ⟨_, rfl, ?_⟩))
   go_ret
   exact ⟨by first | rfl | (simp; done) | (simp [*]; done), by repeat (first | exact Drawn0.refl _ | apply Drawn0.step)⟩
  ·rw [if_neg c4] at H
   have c4b0 : (a0 == 15) = false := beq_eq_false_iff_ne.mpr c4
   have c4b1 : (a0 != 15) = true := bne_iff_ne.mpr c4
   by_cases c5 : a0 = 16
   ·rw [if_pos c5] at H
    have c5b0 : (a0 == 16) = true := beq_iff_eq.mpr c5
    have c5b1 : (a0 != 16) = false := bne_eq_false_iff_eq.mpr c5
    clear c5
    obtain rfl := Option.some.inj H
    go_enter Try.func50, Try.ntmps50
    go_wp2_with (first | ((with_reducible refine gate_callee (f := 62) rfl ?_); refine gL (some 4) rfl rfl Try.func62 (by kernel_rfl) rfl #[.int .i64 a0, .int .i64 1, .int .i64 6] rfl ?_; (with_reducible refine (impl_in.calls a0 1 6 false _ A2.out).mono ?_); rintro e w' ⟨rfl, ⟨nd, rfl⟩⟩; refine ⟨_, rfl, ?_⟩))
    go_ret
    exact ⟨by first | rfl | (simp; done) | (simp [*]; done), by repeat (first | exact Drawn0.refl _ | apply Drawn0.step)⟩
   ·rw [if_neg c5] at H
    have c5b0 : (a0 == 16) = false := beq_eq_false_iff_ne.mpr c5
    have c5b1 : (a0 != 16) = true := bne_iff_ne.mpr c5
    by_cases c6 : a0 = 22
    rotate_left
    ·rw [if_neg c6] at H
     have c6b0 : (a0 == 22) = false := beq_eq_false_iff_ne.mpr c6
     have c6b1 : (a0 != 22) = true := bne_iff_ne.mpr c6
     obtain rfl := Option.some.inj H
     go_enter Try.func50, Try.ntmps50
     go_wp2_with (first | ((with_reducible refine gate_callee (f := 62) rfl ?_); refine gL (some 4) rfl rfl Try.func62 (by kernel_rfl) rfl #[.int .i64 a0, .int .i64 1, .int .i64 6] rfl ?_; (with_reducible refine (impl_in.calls a0 1 6 false _ A2.out).mono ?_); rintro e w' ⟨rfl, ⟨nd, rfl⟩⟩; refine ⟨_, rfl, ?_⟩))
     go_ret
     exact ⟨by first | rfl | (simp; done) | (simp [*]; done), by repeat (first | exact Drawn0.refl _ | apply Drawn0.step)⟩
    rw [if_pos c6] at H
    have c6b0 : (a0 == 22) = true := beq_iff_eq.mpr c6
    have c6b1 : (a0 != 22) = false := bne_eq_false_iff_eq.mpr c6
    clear c6
    obtain rfl := Option.some.inj H
    go_enter Try.func50, Try.ntmps50
    go_wp2_with (first | ((with_reducible refine gate_callee (f := 62) rfl ?_); refine gL (some 4) rfl rfl Try.func62 (by kernel_rfl) rfl #[.int .i64 a0, .int .i64 1, .int .i64 6] rfl ?_; (with_reducible refine (impl_in.calls a0 1 6 false _ A2.out).mono ?_); rintro e w' ⟨rfl, ⟨nd, rfl⟩⟩; refine ⟨_, rfl, ?_⟩))
    go_ret
    exact ⟨by first | rfl | (simp; done) | (simp [*]; done), by repeat (first | exact Drawn0.refl _ | apply Drawn0.step)⟩
/-! ### impl_isFault: function 60 -/
def impl_isFault.f (a0_0 : Int) (a0_1 : Int) (a0_2 : Int) (a0_3 : Int) (l0_4 : List Int) (l0_5 : List Bool) : Option (Bool) := (impl_in.f a0_1 1 255).bind fun t282 => (if t282 = true then (if a0_2 = 0 then (if a0_3 = 0 then (if (l0_4.length : Int) = 0 then (some ((l0_5.length : Int) == 0)) else (some false)) else (some false)) else (some false)) else (some false))
set_option maxHeartbeats 8000000 in
set_option maxRecDepth 100000 in
theorem impl_isFault.calls (a0_0 : Int) (a0_1 : Int) (a0_2 : Int) (a0_3 : Int) (A0_4 : Option Addr) (c0_4 : Nat) (l0_4 : List Int) (A0_5 : Option Addr) (c0_5 : Nat) (l0_5 : List Bool) (r : Bool) (w : World) (hr0_4 : Kd.C (Kd.int .i64) w A0_4 l0_4.length l0_4) (hc0_4 : l0_4.length ≤ c0_4) (hr0_5 : Kd.C Kd.bool w A0_5 l0_5.length l0_5) (hc0_5 : l0_5.length ≤ c0_5) (h : impl_isFault.f a0_0 a0_1 a0_2 a0_3 l0_4 l0_5 = some r) :
  Calls Try.prog 60 #[.agg #[.int .i64 a0_0, .int .i64 a0_1, .int .i64 a0_2, .int .i64 a0_3, .slice A0_4 l0_4.length c0_4, .slice A0_5 l0_5.length c0_5]] w fun e w' => e = .returned (.bool r) ∧ Below w.heap.size w w' := by
 have hu29 := Try.underlying29
 have HR0_4 := aM hr0_4
 have HC0_4 := aM hc0_4
 clear hr0_4 hc0_4
 have HR0_5 := aM hr0_5
 have HC0_5 := aM hc0_5
 clear hr0_5 hc0_5
 have HB := aM (Below.refl w.heap.size w)
 have H : ((impl_in.f a0_1 1 255).bind fun t282 => (if t282 = true then (if a0_2 = 0 then (if a0_3 = 0 then (if (l0_4.length : Int) = 0 then (some ((l0_5.length : Int) == 0)) else (some false)) else (some false)) else (some false)) else (some false))) = some r := h
 clear h
 replace H := Option.bind_eq_some_iff.mp H
 obtain ⟨t282, A20, H⟩ := H
 (try dsimp only at H)
 have A2 := aM A20
 clear A20
 by_cases c3 : t282 = true
 rotate_left
 ·replace c3 := Bool.eq_false_iff.mpr c3
  subst c3
  rw [if_neg (show ¬ (false = true) by decide)] at H
  (try dsimp only at H)
  obtain rfl := Option.some.inj H
  go_enter Try.func60, Try.ntmps60
  go_wp2_with (first | ((with_reducible refine gate_dst (N := 1) rfl ?_); (try (refine gate_guard (by rfl) ?_; dsimp only)); refine box_event ?hg (N := 1) ?hd (cs := #[.int .i64 a0_0, .int .i64 a0_1, .int .i64 a0_2, .int .i64 a0_3, .slice A0_4 l0_4.length c0_4, .slice A0_5 l0_5.length c0_5]) (t := 29) ?hr ?_; (case hd => rfl); (case hg => rfl); (case hr => first | (go_simp; done) | (go_simp; rfl)); intro gb281 hg w15 hbox hb; have _ := aM (below_step (bS HB.out) hb); have _ := aM (hbox); have _ := aM (leG hg (bS HB.out)); have _ := aM (leG hg (bS HB.out)); clear HB; rename_i HB BK281 GW281 GE281; clear hb hbox hg; obtain ⟨hcz16_0, hfz16_0, hcz16_1, hfz16_1, hcz16_2, hfz16_2, hcz16_3, hfz16_3, hcz16_4, hfz16_4, hcz16_5, hfz16_5⟩ := bk6 BK281.out) | ((with_reducible refine gate_callee (f := 62) rfl ?_); refine gL (some 5) rfl rfl Try.func62 (by kernel_rfl) rfl #[.int .i64 a0_1, .int .i64 1, .int .i64 255] rfl ?_; (with_reducible refine (impl_in.calls a0_1 1 255 false _ A2.out).mono ?_); rintro e w' ⟨rfl, ⟨nd, rfl⟩⟩; refine ⟨_, rfl, ?_⟩))
  go_ret
  exact ⟨by first | rfl | (simp [errW_none, errW_some] <;> rfl) | (simp [*, errW_none, errW_some] <;> rfl), bS HB.out⟩
 subst c3
 rw [if_pos rfl] at H
 (try dsimp only at H)
 by_cases c4 : a0_2 = 0
 rotate_left
 ·rw [if_neg c4] at H
  have c4b0 : (a0_2 == 0) = false := beq_eq_false_iff_ne.mpr c4
  have c4b1 : (a0_2 != 0) = true := bne_iff_ne.mpr c4
  obtain rfl := Option.some.inj H
  go_enter Try.func60, Try.ntmps60
  go_wp2_with (first | ((with_reducible refine gate_dst (N := 1) rfl ?_); (try (refine gate_guard (by rfl) ?_; dsimp only)); refine box_event ?hg (N := 1) ?hd (cs := #[.int .i64 a0_0, .int .i64 a0_1, .int .i64 a0_2, .int .i64 a0_3, .slice A0_4 l0_4.length c0_4, .slice A0_5 l0_5.length c0_5]) (t := 29) ?hr ?_; (case hd => rfl); (case hg => rfl); (case hr => first | (go_simp; done) | (go_simp; rfl)); intro gb281 hg w13 hbox hb; have _ := aM (below_step (bS HB.out) hb); have _ := aM (hbox); have _ := aM (leG hg (bS HB.out)); have _ := aM (leG hg (bS HB.out)); clear HB; rename_i HB BK281 GW281 GE281; clear hb hbox hg; obtain ⟨hcz14_0, hfz14_0, hcz14_1, hfz14_1, hcz14_2, hfz14_2, hcz14_3, hfz14_3, hcz14_4, hfz14_4, hcz14_5, hfz14_5⟩ := bk6 BK281.out) | ((with_reducible refine gate_callee (f := 62) rfl ?_); refine gL (some 5) rfl rfl Try.func62 (by kernel_rfl) rfl #[.int .i64 a0_1, .int .i64 1, .int .i64 255] rfl ?_; (with_reducible refine (impl_in.calls a0_1 1 255 true _ A2.out).mono ?_); rintro e w' ⟨rfl, ⟨nd, rfl⟩⟩; refine ⟨_, rfl, ?_⟩))
  go_ret
  exact ⟨by first | rfl | (simp [errW_none, errW_some] <;> rfl) | (simp [*, errW_none, errW_some] <;> rfl), bS HB.out⟩
 rw [if_pos c4] at H
 have c4b0 : (a0_2 == 0) = true := beq_iff_eq.mpr c4
 have c4b1 : (a0_2 != 0) = false := bne_eq_false_iff_eq.mpr c4
 clear c4
 by_cases c5 : a0_3 = 0
 rotate_left
 ·rw [if_neg c5] at H
  have c5b0 : (a0_3 == 0) = false := beq_eq_false_iff_ne.mpr c5
  have c5b1 : (a0_3 != 0) = true := bne_iff_ne.mpr c5
  obtain rfl := Option.some.inj H
  go_enter Try.func60, Try.ntmps60
  go_wp2_with (first | ((with_reducible refine gate_dst (N := 1) rfl ?_); (try (refine gate_guard (by rfl) ?_; dsimp only)); refine box_event ?hg (N := 1) ?hd (cs := #[.int .i64 a0_0, .int .i64 a0_1, .int .i64 a0_2, .int .i64 a0_3, .slice A0_4 l0_4.length c0_4, .slice A0_5 l0_5.length c0_5]) (t := 29) ?hr ?_; (case hd => rfl); (case hg => rfl); (case hr => first | (go_simp; done) | (go_simp; rfl)); intro gb281 hg w11 hbox hb; have _ := aM (below_step (bS HB.out) hb); have _ := aM (hbox); have _ := aM (leG hg (bS HB.out)); have _ := aM (leG hg (bS HB.out)); clear HB; rename_i HB BK281 GW281 GE281; clear hb hbox hg; obtain ⟨hcz12_0, hfz12_0, hcz12_1, hfz12_1, hcz12_2, hfz12_2, hcz12_3, hfz12_3, hcz12_4, hfz12_4, hcz12_5, hfz12_5⟩ := bk6 BK281.out) | ((with_reducible refine gate_callee (f := 62) rfl ?_); refine gL (some 5) rfl rfl Try.func62 (by kernel_rfl) rfl #[.int .i64 a0_1, .int .i64 1, .int .i64 255] rfl ?_; (with_reducible refine (impl_in.calls a0_1 1 255 true _ A2.out).mono ?_); rintro e w' ⟨rfl, ⟨nd, rfl⟩⟩; refine ⟨_, rfl, ?_⟩))
  go_ret
  exact ⟨by first | rfl | (simp [errW_none, errW_some] <;> rfl) | (simp [*, errW_none, errW_some] <;> rfl), bS HB.out⟩
 rw [if_pos c5] at H
 have c5b0 : (a0_3 == 0) = true := beq_iff_eq.mpr c5
 have c5b1 : (a0_3 != 0) = false := bne_eq_false_iff_eq.mpr c5
 clear c5
 by_cases c6 : (l0_4.length : Int) = 0
 rotate_left
 ·rw [if_neg c6] at H
  have c6b0 : ((l0_4.length : Int) == 0) = false := beq_eq_false_iff_ne.mpr c6
  have c6b1 : ((l0_4.length : Int) != 0) = true := bne_iff_ne.mpr c6
  have c6b2 : ¬ (l0_4 = []) := fun h_ => c6 (by rw [h_]; rfl)
  obtain rfl := Option.some.inj H
  go_enter Try.func60, Try.ntmps60
  go_wp2_with (first | ((with_reducible refine gate_dst (N := 1) rfl ?_); (try (refine gate_guard (by rfl) ?_; dsimp only)); refine box_event ?hg (N := 1) ?hd (cs := #[.int .i64 a0_0, .int .i64 a0_1, .int .i64 a0_2, .int .i64 a0_3, .slice A0_4 l0_4.length c0_4, .slice A0_5 l0_5.length c0_5]) (t := 29) ?hr ?_; (case hd => rfl); (case hg => rfl); (case hr => first | (go_simp; done) | (go_simp; rfl)); intro gb281 hg w9 hbox hb; have _ := aM (below_step (bS HB.out) hb); have _ := aM (hbox); have _ := aM (leG hg (bS HB.out)); have _ := aM (leG hg (bS HB.out)); clear HB; rename_i HB BK281 GW281 GE281; clear hb hbox hg; obtain ⟨hcz10_0, hfz10_0, hcz10_1, hfz10_1, hcz10_2, hfz10_2, hcz10_3, hfz10_3, hcz10_4, hfz10_4, hcz10_5, hfz10_5⟩ := bk6 BK281.out) | ((with_reducible refine gate_callee (f := 62) rfl ?_); refine gL (some 5) rfl rfl Try.func62 (by kernel_rfl) rfl #[.int .i64 a0_1, .int .i64 1, .int .i64 255] rfl ?_; (with_reducible refine (impl_in.calls a0_1 1 255 true _ A2.out).mono ?_); rintro e w' ⟨rfl, ⟨nd, rfl⟩⟩; refine ⟨_, rfl, ?_⟩))
  go_ret
  exact ⟨by first | rfl | (simp [errW_none, errW_some] <;> rfl) | (simp [*, errW_none, errW_some] <;> rfl), bS HB.out⟩
 rw [if_pos c6] at H
 have c6b0 : ((l0_4.length : Int) == 0) = true := beq_iff_eq.mpr c6
 have c6b1 : ((l0_4.length : Int) != 0) = false := bne_eq_false_iff_eq.mpr c6
 clear c6
 obtain rfl := Option.some.inj H
 go_enter Try.func60, Try.ntmps60
 go_wp2_with (first | ((with_reducible refine gate_dst (N := 1) rfl ?_); (try (refine gate_guard (by rfl) ?_; dsimp only)); refine box_event ?hg (N := 1) ?hd (cs := #[.int .i64 a0_0, .int .i64 a0_1, .int .i64 a0_2, .int .i64 a0_3, .slice A0_4 l0_4.length c0_4, .slice A0_5 l0_5.length c0_5]) (t := 29) ?hr ?_; (case hd => rfl); (case hg => rfl); (case hr => first | (go_simp; done) | (go_simp; rfl)); intro gb281 hg w7 hbox hb; have _ := aM (below_step (bS HB.out) hb); have _ := aM (hbox); have _ := aM (leG hg (bS HB.out)); have _ := aM (leG hg (bS HB.out)); clear HB; rename_i HB BK281 GW281 GE281; clear hb hbox hg; obtain ⟨hcz8_0, hfz8_0, hcz8_1, hfz8_1, hcz8_2, hfz8_2, hcz8_3, hfz8_3, hcz8_4, hfz8_4, hcz8_5, hfz8_5⟩ := bk6 BK281.out) | ((with_reducible refine gate_callee (f := 62) rfl ?_); refine gL (some 5) rfl rfl Try.func62 (by kernel_rfl) rfl #[.int .i64 a0_1, .int .i64 1, .int .i64 255] rfl ?_; (with_reducible refine (impl_in.calls a0_1 1 255 true _ A2.out).mono ?_); rintro e w' ⟨rfl, ⟨nd, rfl⟩⟩; refine ⟨_, rfl, ?_⟩))
 go_ret
 exact ⟨by first | rfl | (simp [errW_none, errW_some] <;> rfl) | (simp [*, errW_none, errW_some] <;> rfl), bS HB.out⟩
/-! ### impl_shape: function 61 -/
mutual
def impl_shape.j0 : Nat → Int → Bool → Option (Int × Int × Int × Int × Int × Bool)
 | 0, _, _ => none
 | k + 1, x6, x7 => if x7 = true then (some (0, 0, 1, 2000, 0, false)) else (if x6 = 3 then (impl_shape.j1 k x6 (x6 == 3)) else (if x6 = 4 then (impl_shape.j1 k x6 (x6 == 4)) else (impl_shape.j1 k x6 (x6 == 23))))
def impl_shape.j1 : Nat → Int → Bool → Option (Int × Int × Int × Int × Int × Bool)
 | 0, _, _ => none
 | k + 1, x6, x12 => if x12 = true then (some (1, 125, 0, 0, 0, false)) else (if x6 = 5 then (some (0, 0, 1, 1, 0, true)) else (if x6 = 6 then (some (1, 1, 0, 0, 0, true)) else (if x6 = 15 then (some (0, 0, 0, 0, 1968, true)) else (if x6 = 16 then (some (0, 0, 0, 0, 123, true)) else (some (2, 2, 0, 0, 0, true))))))
end
def impl_shape.f (k : Nat) (a0 : Int) : Option (Int × Int × Int × Int × Int × Bool) := if a0 = 1 then (impl_shape.j0 k a0 (a0 == 1)) else (impl_shape.j0 k a0 (a0 == 2))
theorem impl_shape.mono_l : ∀ k, (∀ y0 y1, LeO (impl_shape.j0 k y0 y1) (impl_shape.j0 (k + 1) y0 y1)) ∧ (∀ y0 y1, LeO (impl_shape.j1 k y0 y1) (impl_shape.j1 (k + 1) y0 y1))
 | 0 => ⟨fun _ _ r h => by simp [impl_shape.j0] at h, fun _ _ r h => by simp [impl_shape.j1] at h⟩
 | k + 1 => by
  obtain ⟨ih0, ih1⟩ := impl_shape.mono_l k
  refine ⟨?_, ?_⟩
  ·intro y0 y1
   unfold impl_shape.j0
   repeat' first
   | (with_reducible exact ih0 _ _)
   | (with_reducible exact ih1 _ _)
   | (with_reducible exact LeO.refl _)
   | (with_reducible exact LeO.none _)
   | (with_reducible refine LeO.ite ?_ ?_)
   | (with_reducible refine LeO.bind ?_ (fun _ => ?_))
   | exact ih0 _ _
   | exact ih1 _ _
   | exact LeO.none _
   | refine LeO.ite ?_ ?_
   | refine LeO.bind ?_ (fun _ => ?_)
  ·intro y0 y1
   unfold impl_shape.j1
   repeat' first
   | (with_reducible exact ih0 _ _)
   | (with_reducible exact ih1 _ _)
   | (with_reducible exact LeO.refl _)
   | (with_reducible exact LeO.none _)
   | (with_reducible refine LeO.ite ?_ ?_)
   | (with_reducible refine LeO.bind ?_ (fun _ => ?_))
   | exact ih0 _ _
   | exact ih1 _ _
   | exact LeO.none _
   | refine LeO.ite ?_ ?_
   | refine LeO.bind ?_ (fun _ => ?_)
theorem impl_shape.mono : ∀ a0 k, LeO (impl_shape.f k a0) (impl_shape.f (k + 1) a0) := by
 intro a0 k
 obtain ⟨ih0, ih1⟩ := impl_shape.mono_l k
 unfold impl_shape.f
 repeat' first
   | (with_reducible exact ih0 _ _)
   | (with_reducible exact ih1 _ _)
   | (with_reducible exact LeO.refl _)
   | (with_reducible exact LeO.none _)
   | (with_reducible refine LeO.ite ?_ ?_)
   | (with_reducible refine LeO.bind ?_ (fun _ => ?_))
   | exact ih0 _ _
   | exact ih1 _ _
   | exact LeO.none _
   | refine LeO.ite ?_ ?_
   | refine LeO.bind ?_ (fun _ => ?_)
set_option maxHeartbeats 8000000 in
set_option maxRecDepth 100000 in
theorem impl_shape.calls (k : Nat) (a0 : Int) (r1 : Int) (r2 : Int) (r3 : Int) (r4 : Int) (r5 : Int) (r6 : Bool) (w : World) (h : impl_shape.f k a0 = some (r1, r2, r3, r4, r5, r6)) :
  Calls Try.prog 61 #[.int .i64 a0] w fun e w' => e = .returned (.tuple #[.agg #[.int .i64 r1, .int .i64 r2], .agg #[.int .i64 r3, .int .i64 r4], .int .i64 r5, .bool r6]) ∧ Below w.heap.size w w' := by
 have hu81 := Try.underlying81
 have HB := aM (Below.refl w.heap.size w)
 have H : (if a0 = 1 then (impl_shape.j0 k a0 (a0 == 1)) else (impl_shape.j0 k a0 (a0 == 2))) = some (r1, r2, r3, r4, r5, r6) := h
 clear h
 have HC2 := aM H
 clear H
 go_enter Try.func61, Try.ntmps61
 go_upto_if 7 with (first | ((with_reducible refine gate_dst (N := 2) rfl ?_); refine box_event ?hg (N := 2) ?hd (cs := #[.int .i64 0, .int .i64 0]) (t := 81) ?hr ?_; (case hd => rfl); (case hg => rfl); (case hr => first | (go_simp; done) | (go_simp; rfl)); intro gb283 hg w3 hbox hb; have _ := aM (below_step (bS HB.out) hb); have _ := aM (hbox); have _ := aM (leG hg (bS HB.out)); have _ := aM (leG hg (bS HB.out)); clear HB; rename_i HB BK283 GW283 GE283; clear hb hbox hg) | ((with_reducible refine gate_dst (N := 3) rfl ?_); refine box_event ?hg (N := 3) ?hd (cs := #[.int .i64 0, .int .i64 0]) (t := 81) ?hr ?_; (case hd => rfl); (case hg => rfl); (case hr => first | (go_simp; done) | (go_simp; rfl)); intro gb284 hg w4 hbox hb; have _ := aM (kB BK283.out hb); have _ := aM (below_step (bS HB.out) hb); have _ := aM (hbox); have _ := aM (leG hg (bS HB.out)); have _ := aM (leG hg (bS HB.out)); have _ := aM (neL hg (kA BK283.out)); have _ := aM (neG hg (kA BK283.out)); clear BK283 HB; rename_i BK283 HB BK284 GW284 GE284 NB283_284 NB284_283; clear hb hbox hg))
 (try simp only [Act.put, List.setIfInBounds_toArray, List.set_cons_zero, List.set_cons_succ])
 go_cut [7] (fun v7 wc => ∃ (kq : Nat) (x7_1 : Bool), v7 = .bool x7_1 ∧ Aside0 (impl_shape.j0 kq a0 x7_1 = some (r1, r2, r3, r4, r5, r6)) ∧ Aside0 (kq ≤ k) ∧ Aside0 (wc.heap[gb283]? = some (.cells #[.int .i64 0, .int .i64 0] 81 (0, 0))) ∧ Aside0 (wc.heap[gb284]? = some (.cells #[.int .i64 0, .int .i64 0] 81 (0, 0))) ∧ Aside0 (Below w.heap.size w wc))
 case first =>
  have H := HC2.out
  clear HC2
  by_cases c5 : a0 = 1
  rotate_left
  ·rw [if_neg c5] at H
   have c5b0 : (a0 == 1) = false := beq_eq_false_iff_ne.mpr c5
   have c5b1 : (a0 != 1) = true := bne_iff_ne.mpr c5
   (first | rw [c5b0] | (simp only [i64_w, i32_w]; rw [c5b0]) | skip)
   have H' := aM H
   clear H
   go_wp2
   go_meet
   case rel => exact ⟨_, ((a0 == 2)), (by first | rfl | (simp; done) | (simp [*]; done)), H', ⟨by first | omega | exact Nat.le_refl _⟩, ⟨kX BK283.out⟩, ⟨kX BK284.out⟩, ⟨bS HB.out⟩⟩
  rw [if_pos c5] at H
  have c5b0 : (a0 == 1) = true := beq_iff_eq.mpr c5
  have c5b1 : (a0 != 1) = false := bne_eq_false_iff_eq.mpr c5
  clear c5
  (first | rw [c5b0] | (simp only [i64_w, i32_w]; rw [c5b0]) | skip)
  have H' := aM H
  clear H
  go_wp2
  go_meet
  case rel => exact ⟨_, ((a0 == 1)), (by first | rfl | (simp; done) | (simp [*]; done)), H', ⟨by first | omega | exact Nat.le_refl _⟩, ⟨kX BK283.out⟩, ⟨kX BK284.out⟩, ⟨bS HB.out⟩⟩
 case rest =>
  clear HC2
  obtain ⟨kq, x7_1, rfl, HA, HJ1, BK283, BK284, HB⟩ := hcut
  cases kq with
  | zero => exact absurd HA.out (by simp [impl_shape.j0])
  | succ kj1 =>
   have H := HA.out
   clear HA
   simp only [impl_shape.j0] at H
   by_cases c6 : x7_1 = true
   ·subst c6
    rw [if_pos rfl] at H
    (try dsimp only at H)
    simp only [Option.some.injEq, Prod.mk.injEq] at H
    obtain ⟨rfl, rfl, rfl, rfl, rfl, rfl⟩ := H
    have hnb7 := NB283_284.out
    have hnc7 := NB284_283.out
    obtain ⟨hcz8_0, hfz8_0, hcz8_1, hfz8_1⟩ := bk2 BK283.out
    obtain ⟨hcz9_0, hfz9_0, hcz9_1, hfz9_1⟩ := bk2 BK284.out
    go_wp2
    refine bodyPost_ret (results_list (rs := [.cell 2 81, .cell 3 81, .tmp 4, .tmp 5]) rfl (by simp) (.cell gb283 81 #[.int .i64 0, .int .i64 0] (0, 0) _ rfl (kX BK283.out) Try.underlying81 rfl (by kernel_rfl) (.cell gb284 81 #[.int .i64 1, .int .i64 2000] (0, 0) _ rfl (kX BK284.out) Try.underlying81 rfl (by kernel_rfl) (.tmp (.tmp .nil))))) rfl ?_
    exact ⟨by first | rfl | (simp [errW_none, errW_some] <;> rfl) | (simp [*, errW_none, errW_some] <;> rfl), bS HB.out⟩
   ·replace c6 := Bool.eq_false_iff.mpr c6
    subst c6
    rw [if_neg (show ¬ (false = true) by decide)] at H
    (try dsimp only at H)
    have HC10 := aM H
    clear H
    go_upto_if 12 with (fail)
    go_cut [12] (fun v12 wc => ∃ (kq : Nat) (x12_9 : Bool), v12 = .bool x12_9 ∧ Aside0 (impl_shape.j1 kq a0 x12_9 = some (r1, r2, r3, r4, r5, r6)) ∧ Aside0 (kq ≤ kj1) ∧ Aside0 (wc.heap[gb283]? = some (.cells #[.int .i64 0, .int .i64 0] 81 (0, 0))) ∧ Aside0 (wc.heap[gb284]? = some (.cells #[.int .i64 0, .int .i64 0] 81 (0, 0))) ∧ Aside0 (Below w.heap.size w wc))
    case first =>
     have H := HC10.out
     clear HC10
     by_cases c11 : a0 = 3
     ·rw [if_pos c11] at H
      have c11b0 : (a0 == 3) = true := beq_iff_eq.mpr c11
      have c11b1 : (a0 != 3) = false := bne_eq_false_iff_eq.mpr c11
      clear c11
      (first | rw [c11b0] | (simp only [i64_w, i32_w]; rw [c11b0]) | skip)
      have H' := aM H
      clear H
      go_wp2
      go_meet
      case rel => exact ⟨_, ((a0 == 3)), (by first | rfl | (simp; done) | (simp [*]; done)), H', ⟨by have := HJ1.out; first | omega | exact Nat.le_refl _⟩, ⟨kX BK283.out⟩, ⟨kX BK284.out⟩, ⟨bS HB.out⟩⟩
     ·rw [if_neg c11] at H
      have c11b0 : (a0 == 3) = false := beq_eq_false_iff_ne.mpr c11
      have c11b1 : (a0 != 3) = true := bne_iff_ne.mpr c11
      (first | rw [c11b0] | (simp only [i64_w, i32_w]; rw [c11b0]) | skip)
      by_cases c12 : a0 = 4
      rotate_left
      ·rw [if_neg c12] at H
       have c12b0 : (a0 == 4) = false := beq_eq_false_iff_ne.mpr c12
       have c12b1 : (a0 != 4) = true := bne_iff_ne.mpr c12
       have H' := aM H
       clear H
       go_wp2
       go_meet
       case rel => exact ⟨_, ((a0 == 23)), (by first | rfl | (simp; done) | (simp [*]; done)), H', ⟨by have := HJ1.out; first | omega | exact Nat.le_refl _⟩, ⟨kX BK283.out⟩, ⟨kX BK284.out⟩, ⟨bS HB.out⟩⟩
      rw [if_pos c12] at H
      have c12b0 : (a0 == 4) = true := beq_iff_eq.mpr c12
      have c12b1 : (a0 != 4) = false := bne_eq_false_iff_eq.mpr c12
      clear c12
      have H' := aM H
      clear H
      go_wp2
      go_meet
      case rel => exact ⟨_, ((a0 == 4)), (by first | rfl | (simp; done) | (simp [*]; done)), H', ⟨by have := HJ1.out; first | omega | exact Nat.le_refl _⟩, ⟨kX BK283.out⟩, ⟨kX BK284.out⟩, ⟨bS HB.out⟩⟩
    case rest =>
     clear HC10
     try clear p2
     try clear c5
     try clear c5b0
     try clear c5b1
     try clear c6
     try clear hcz8_0
     try clear hcz8_1
     try clear hcz9_0
     try clear hcz9_1
     try clear hfz8_0
     try clear hfz8_1
     try clear hfz9_0
     try clear hfz9_1
     try clear p2
     obtain ⟨kq, x12_9, rfl, HA, HJ9, BK283, BK284, HB⟩ := hcut
     cases kq with
     | zero => exact absurd HA.out (by simp [impl_shape.j1])
     | succ kj9 =>
      have H := HA.out
      clear HA
      simp only [impl_shape.j1] at H
      by_cases c13 : x12_9 = true
      ·subst c13
       rw [if_pos rfl] at H
       (try dsimp only at H)
       simp only [Option.some.injEq, Prod.mk.injEq] at H
       obtain ⟨rfl, rfl, rfl, rfl, rfl, rfl⟩ := H
       have hnb14 := NB283_284.out
       have hnc14 := NB284_283.out
       obtain ⟨hcz15_0, hfz15_0, hcz15_1, hfz15_1⟩ := bk2 BK283.out
       obtain ⟨hcz16_0, hfz16_0, hcz16_1, hfz16_1⟩ := bk2 BK284.out
       go_wp2
       refine bodyPost_ret (results_list (rs := [.cell 2 81, .cell 3 81, .tmp 4, .tmp 5]) rfl (by simp) (.cell gb283 81 #[.int .i64 1, .int .i64 125] (0, 0) _ rfl (kX BK283.out) Try.underlying81 rfl (by kernel_rfl) (.cell gb284 81 #[.int .i64 0, .int .i64 0] (0, 0) _ rfl (kX BK284.out) Try.underlying81 rfl (by kernel_rfl) (.tmp (.tmp .nil))))) rfl ?_
       exact ⟨by first | rfl | (simp [errW_none, errW_some] <;> rfl) | (simp [*, errW_none, errW_some] <;> rfl), bS HB.out⟩
      ·replace c13 := Bool.eq_false_iff.mpr c13
       subst c13
       rw [if_neg (show ¬ (false = true) by decide)] at H
       (try dsimp only at H)
       by_cases c17 : a0 = 5
       ·rw [if_pos c17] at H
        have c17b0 : (a0 == 5) = true := beq_iff_eq.mpr c17
        have c17b1 : (a0 != 5) = false := bne_eq_false_iff_eq.mpr c17
        clear c17
        simp only [Option.some.injEq, Prod.mk.injEq] at H
        obtain ⟨rfl, rfl, rfl, rfl, rfl, rfl⟩ := H
        have hnb18 := NB283_284.out
        have hnc18 := NB284_283.out
        obtain ⟨hcz19_0, hfz19_0, hcz19_1, hfz19_1⟩ := bk2 BK283.out
        obtain ⟨hcz20_0, hfz20_0, hcz20_1, hfz20_1⟩ := bk2 BK284.out
        go_wp2
        refine bodyPost_ret (results_list (rs := [.cell 2 81, .cell 3 81, .tmp 4, .tmp 5]) rfl (by simp) (.cell gb283 81 #[.int .i64 0, .int .i64 0] (0, 0) _ rfl (kX BK283.out) Try.underlying81 rfl (by kernel_rfl) (.cell gb284 81 #[.int .i64 1, .int .i64 1] (0, 0) _ rfl (kX BK284.out) Try.underlying81 rfl (by kernel_rfl) (.tmp (.tmp .nil))))) rfl ?_
        exact ⟨by first | rfl | (simp [errW_none, errW_some] <;> rfl) | (simp [*, errW_none, errW_some] <;> rfl), bS HB.out⟩
       ·rw [if_neg c17] at H
        have c17b0 : (a0 == 5) = false := beq_eq_false_iff_ne.mpr c17
        have c17b1 : (a0 != 5) = true := bne_iff_ne.mpr c17
        by_cases c21 : a0 = 6
        ·rw [if_pos c21] at H
         have c21b0 : (a0 == 6) = true := beq_iff_eq.mpr c21
         have c21b1 : (a0 != 6) = false := bne_eq_false_iff_eq.mpr c21
         clear c21
         simp only [Option.some.injEq, Prod.mk.injEq] at H
         obtain ⟨rfl, rfl, rfl, rfl, rfl, rfl⟩ := H
         have hnb22 := NB283_284.out
         have hnc22 := NB284_283.out
         obtain ⟨hcz23_0, hfz23_0, hcz23_1, hfz23_1⟩ := bk2 BK283.out
         obtain ⟨hcz24_0, hfz24_0, hcz24_1, hfz24_1⟩ := bk2 BK284.out
         go_wp2
         refine bodyPost_ret (results_list (rs := [.cell 2 81, .cell 3 81, .tmp 4, .tmp 5]) rfl (by simp) (.cell gb283 81 #[.int .i64 1, .int .i64 1] (0, 0) _ rfl (kX BK283.out) Try.underlying81 rfl (by kernel_rfl) (.cell gb284 81 #[.int .i64 0, .int .i64 0] (0, 0) _ rfl (kX BK284.out) Try.underlying81 rfl (by kernel_rfl) (.tmp (.tmp .nil))))) rfl ?_
         exact ⟨by first | rfl | (simp [errW_none, errW_some] <;> rfl) | (simp [*, errW_none, errW_some] <;> rfl), bS HB.out⟩
        ·rw [if_neg c21] at H
         have c21b0 : (a0 == 6) = false := beq_eq_false_iff_ne.mpr c21
         have c21b1 : (a0 != 6) = true := bne_iff_ne.mpr c21
         by_cases c25 : a0 = 15
         ·rw [if_pos c25] at H
          have c25b0 : (a0 == 15) = true := beq_iff_eq.mpr c25
          have c25b1 : (a0 != 15) = false := bne_eq_false_iff_eq.mpr c25
          clear c25
          simp only [Option.some.injEq, Prod.mk.injEq] at H
          obtain ⟨rfl, rfl, rfl, rfl, rfl, rfl⟩ := H
          have hnb26 := NB283_284.out
          have hnc26 := NB284_283.out
          obtain ⟨hcz27_0, hfz27_0, hcz27_1, hfz27_1⟩ := bk2 BK283.out
          obtain ⟨hcz28_0, hfz28_0, hcz28_1, hfz28_1⟩ := bk2 BK284.out
          go_wp2
          refine bodyPost_ret (results_list (rs := [.cell 2 81, .cell 3 81, .tmp 4, .tmp 5]) rfl (by simp) (.cell gb283 81 #[.int .i64 0, .int .i64 0] (0, 0) _ rfl (kX BK283.out) Try.underlying81 rfl (by kernel_rfl) (.cell gb284 81 #[.int .i64 0, .int .i64 0] (0, 0) _ rfl (kX BK284.out) Try.underlying81 rfl (by kernel_rfl) (.tmp (.tmp .nil))))) rfl ?_
          exact ⟨by first | rfl | (simp [errW_none, errW_some] <;> rfl) | (simp [*, errW_none, errW_some] <;> rfl), bS HB.out⟩
         ·rw [if_neg c25] at H
          have c25b0 : (a0 == 15) = false := beq_eq_false_iff_ne.mpr c25
          have c25b1 : (a0 != 15) = true := bne_iff_ne.mpr c25
          by_cases c29 : a0 = 16
          rotate_left
          ·rw [if_neg c29] at H
           have c29b0 : (a0 == 16) = false := beq_eq_false_iff_ne.mpr c29
           have c29b1 : (a0 != 16) = true := bne_iff_ne.mpr c29
           simp only [Option.some.injEq, Prod.mk.injEq] at H
           obtain ⟨rfl, rfl, rfl, rfl, rfl, rfl⟩ := H
           have hnb33 := NB283_284.out
           have hnc33 := NB284_283.out
           obtain ⟨hcz34_0, hfz34_0, hcz34_1, hfz34_1⟩ := bk2 BK283.out
           obtain ⟨hcz35_0, hfz35_0, hcz35_1, hfz35_1⟩ := bk2 BK284.out
           go_wp2
           refine bodyPost_ret (results_list (rs := [.cell 2 81, .cell 3 81, .tmp 4, .tmp 5]) rfl (by simp) (.cell gb283 81 #[.int .i64 2, .int .i64 2] (0, 0) _ rfl (kX BK283.out) Try.underlying81 rfl (by kernel_rfl) (.cell gb284 81 #[.int .i64 0, .int .i64 0] (0, 0) _ rfl (kX BK284.out) Try.underlying81 rfl (by kernel_rfl) (.tmp (.tmp .nil))))) rfl ?_
           exact ⟨by first | rfl | (simp [errW_none, errW_some] <;> rfl) | (simp [*, errW_none, errW_some] <;> rfl), bS HB.out⟩
          rw [if_pos c29] at H
          have c29b0 : (a0 == 16) = true := beq_iff_eq.mpr c29
          have c29b1 : (a0 != 16) = false := bne_eq_false_iff_eq.mpr c29
          clear c29
          simp only [Option.some.injEq, Prod.mk.injEq] at H
          obtain ⟨rfl, rfl, rfl, rfl, rfl, rfl⟩ := H
          have hnb30 := NB283_284.out
          have hnc30 := NB284_283.out
          obtain ⟨hcz31_0, hfz31_0, hcz31_1, hfz31_1⟩ := bk2 BK283.out
          obtain ⟨hcz32_0, hfz32_0, hcz32_1, hfz32_1⟩ := bk2 BK284.out
          go_wp2
          refine bodyPost_ret (results_list (rs := [.cell 2 81, .cell 3 81, .tmp 4, .tmp 5]) rfl (by simp) (.cell gb283 81 #[.int .i64 0, .int .i64 0] (0, 0) _ rfl (kX BK283.out) Try.underlying81 rfl (by kernel_rfl) (.cell gb284 81 #[.int .i64 0, .int .i64 0] (0, 0) _ rfl (kX BK284.out) Try.underlying81 rfl (by kernel_rfl) (.tmp (.tmp .nil))))) rfl ?_
          exact ⟨by first | rfl | (simp [errW_none, errW_some] <;> rfl) | (simp [*, errW_none, errW_some] <;> rfl), bS HB.out⟩
/-! ### impl_RespOk: function 23 -/
def impl_RespOk.j0 : Nat → Int → Bool → Bool → Int → Int → Int → Int → List Int → List Bool → Int → Int → Option (Bool)
 | 0, _, _, _, _, _, _, _, _, _, _, _ => none
 | k + 1, x5, x6, x49, x287000, x287001, x287002, x287003, x287004, x287005, x297000, x297001 => if x49 = true then (some false) else (if x297001 > 1 then (if ((x287005.length : Int) % 8) = 0 then (if x5 = 0 then (if x287003 = 0 then (if x5 > 0 then ((impl_in.f x287003 1 x5).bind fun t300 => (if t300 = true then (if x6 = true then ((impl_isWord.f x287002).bind fun t301 => (if t301 = true then (some true) else (some (x287002 == 0)))) else (some (x287002 == 0))) else (some false))) else (if x6 = true then ((impl_isWord.f x287002).bind fun t302 => (if t302 = true then (some true) else (some (x287002 == 0)))) else (some (x287002 == 0)))) else (some false)) else (if x5 > 0 then ((impl_in.f x287003 1 x5).bind fun t303 => (if t303 = true then (if x6 = true then ((impl_isWord.f x287002).bind fun t304 => (if t304 = true then (some true) else (some (x287002 == 0)))) else (some (x287002 == 0))) else (some false))) else (if x6 = true then ((impl_isWord.f x287002).bind fun t305 => (if t305 = true then (some true) else (some (x287002 == 0)))) else (some (x287002 == 0))))) else (some false)) else (if x5 = 0 then (if x287003 = 0 then (if x5 > 0 then ((impl_in.f x287003 1 x5).bind fun t306 => (if t306 = true then (if x6 = true then ((impl_isWord.f x287002).bind fun t307 => (if t307 = true then (some true) else (some (x287002 == 0)))) else (some (x287002 == 0))) else (some false))) else (if x6 = true then ((impl_isWord.f x287002).bind fun t308 => (if t308 = true then (some true) else (some (x287002 == 0)))) else (some (x287002 == 0)))) else (some false)) else (if x5 > 0 then ((impl_in.f x287003 1 x5).bind fun t309 => (if t309 = true then (if x6 = true then ((impl_isWord.f x287002).bind fun t310 => (if t310 = true then (some true) else (some (x287002 == 0)))) else (some (x287002 == 0))) else (some false))) else (if x6 = true then ((impl_isWord.f x287002).bind fun t311 => (if t311 = true then (some true) else (some (x287002 == 0)))) else (some (x287002 == 0))))))
def impl_RespOk.f (k : Nat) (a0_0 : Int) (a0_1 : Int) (a0_2 : Int) (a0_3 : Int) (l0_4 : List Int) (l0_5 : List Bool) : Option (Bool) := (impl_isKind.f a0_0).bind fun t287 => (if t287 = true then (if a0_1 = 0 then ((impl_shape.f k a0_0).bind fun bt289 => ((impl_in.f (l0_4.length : Int) bt289.1 bt289.2.1).bind fun t297 => (if t297 = true then ((impl_in.f (l0_5.length : Int) bt289.2.2.1 bt289.2.2.2.1).bind fun t298 => (if t298 = true then ((impl_allWords.f l0_4).bind fun t299 => (impl_RespOk.j0 k bt289.2.2.2.2.1 bt289.2.2.2.2.2 (!t299) a0_0 a0_1 a0_2 a0_3 l0_4 l0_5 bt289.2.2.1 bt289.2.2.2.1)) else (impl_RespOk.j0 k bt289.2.2.2.2.1 bt289.2.2.2.2.2 true a0_0 a0_1 a0_2 a0_3 l0_4 l0_5 bt289.2.2.1 bt289.2.2.2.1))) else (impl_RespOk.j0 k bt289.2.2.2.2.1 bt289.2.2.2.2.2 true a0_0 a0_1 a0_2 a0_3 l0_4 l0_5 bt289.2.2.1 bt289.2.2.2.1)))) else ((impl_isFault.f a0_0 a0_1 a0_2 a0_3 l0_4 l0_5).bind fun t288 => (some t288))) else (some false))
theorem impl_RespOk.mono_l : ∀ k, (∀ y0 y1 y2 y3 y4 y5 y6 y7 y8 y9 y10, LeO (impl_RespOk.j0 k y0 y1 y2 y3 y4 y5 y6 y7 y8 y9 y10) (impl_RespOk.j0 (k + 1) y0 y1 y2 y3 y4 y5 y6 y7 y8 y9 y10))
 | 0 => fun _ _ _ _ _ _ _ _ _ _ _ r h => by simp [impl_RespOk.j0] at h
 | k + 1 => by
  have ih0 := impl_RespOk.mono_l k
  ·intro y0 y1 y2 y3 y4 y5 y6 y7 y8 y9 y10
   unfold impl_RespOk.j0
   repeat' first
   | (with_reducible exact ih0 _ _ _ _ _ _ _ _ _ _ _)
   | (with_reducible exact impl_shape.mono _ _)
   | (with_reducible exact LeO.refl _)
   | (with_reducible exact LeO.none _)
   | (with_reducible refine LeO.ite ?_ ?_)
   | (with_reducible refine LeO.bind ?_ (fun _ => ?_))
   | exact ih0 _ _ _ _ _ _ _ _ _ _ _
   | exact impl_shape.mono _ _
   | exact LeO.none _
   | refine LeO.ite ?_ ?_
   | refine LeO.bind ?_ (fun _ => ?_)
theorem impl_RespOk.mono : ∀ a0 a1 a2 a3 a4 a5 k, LeO (impl_RespOk.f k a0 a1 a2 a3 a4 a5) (impl_RespOk.f (k + 1) a0 a1 a2 a3 a4 a5) := by
 intro a0 a1 a2 a3 a4 a5 k
 have ih0 := impl_RespOk.mono_l k
 unfold impl_RespOk.f
 repeat' first
   | (with_reducible exact ih0 _ _ _ _ _ _ _ _ _ _ _)
   | (with_reducible exact impl_shape.mono _ _)
   | (with_reducible exact LeO.refl _)
   | (with_reducible exact LeO.none _)
   | (with_reducible refine LeO.ite ?_ ?_)
   | (with_reducible refine LeO.bind ?_ (fun _ => ?_))
   | exact ih0 _ _ _ _ _ _ _ _ _ _ _
   | exact impl_shape.mono _ _
   | exact LeO.none _
   | refine LeO.ite ?_ ?_
   | refine LeO.bind ?_ (fun _ => ?_)
set_option maxHeartbeats 8000000 in
set_option maxRecDepth 100000 in
theorem impl_RespOk.calls (k : Nat) (a0_0 : Int) (a0_1 : Int) (a0_2 : Int) (a0_3 : Int) (A0_4 : Option Addr) (c0_4 : Nat) (l0_4 : List Int) (A0_5 : Option Addr) (c0_5 : Nat) (l0_5 : List Bool) (r : Bool) (w : World) (hr0_4 : Kd.C (Kd.int .i64) w A0_4 l0_4.length l0_4) (hc0_4 : l0_4.length ≤ c0_4) (hr0_5 : Kd.C Kd.bool w A0_5 l0_5.length l0_5) (hc0_5 : l0_5.length ≤ c0_5) (h : impl_RespOk.f k a0_0 a0_1 a0_2 a0_3 l0_4 l0_5 = some r) :
  Calls Try.prog 23 #[.agg #[.int .i64 a0_0, .int .i64 a0_1, .int .i64 a0_2, .int .i64 a0_3, .slice A0_4 l0_4.length c0_4, .slice A0_5 l0_5.length c0_5]] w fun e w' => e = .returned (.bool r) ∧ Below w.heap.size w w' := by
 have hu29 := Try.underlying29
 have hu81 := Try.underlying81
 have HR0_4 := aM hr0_4
 have HC0_4 := aM hc0_4
 clear hr0_4 hc0_4
 have HR0_5 := aM hr0_5
 have HC0_5 := aM hc0_5
 clear hr0_5 hc0_5
 have HB := aM (Below.refl w.heap.size w)
 have H : ((impl_isKind.f a0_0).bind fun t287 => (if t287 = true then (if a0_1 = 0 then ((impl_shape.f k a0_0).bind fun bt289 => ((impl_in.f (l0_4.length : Int) bt289.1 bt289.2.1).bind fun t297 => (if t297 = true then ((impl_in.f (l0_5.length : Int) bt289.2.2.1 bt289.2.2.2.1).bind fun t298 => (if t298 = true then ((impl_allWords.f l0_4).bind fun t299 => (impl_RespOk.j0 k bt289.2.2.2.2.1 bt289.2.2.2.2.2 (!t299) a0_0 a0_1 a0_2 a0_3 l0_4 l0_5 bt289.2.2.1 bt289.2.2.2.1)) else (impl_RespOk.j0 k bt289.2.2.2.2.1 bt289.2.2.2.2.2 true a0_0 a0_1 a0_2 a0_3 l0_4 l0_5 bt289.2.2.1 bt289.2.2.2.1))) else (impl_RespOk.j0 k bt289.2.2.2.2.1 bt289.2.2.2.2.2 true a0_0 a0_1 a0_2 a0_3 l0_4 l0_5 bt289.2.2.1 bt289.2.2.2.1)))) else ((impl_isFault.f a0_0 a0_1 a0_2 a0_3 l0_4 l0_5).bind fun t288 => (some t288))) else (some false))) = some r := h
 clear h
 replace H := Option.bind_eq_some_iff.mp H
 obtain ⟨t287, A20, H⟩ := H
 (try dsimp only at H)
 have A2 := aM A20
 clear A20
 by_cases c3 : t287 = true
 rotate_left
 ·replace c3 := Bool.eq_false_iff.mpr c3
  subst c3
  rw [if_neg (show ¬ (false = true) by decide)] at H
  (try dsimp only at H)
  obtain rfl := Option.some.inj H
  go_enter Try.func23, Try.ntmps23
  go_wp2_with (first | ((with_reducible refine gate_dst (N := 1) rfl ?_); (try (refine gate_guard (by rfl) ?_; dsimp only)); refine box_event ?hg (N := 1) ?hd (cs := #[.int .i64 a0_0, .int .i64 a0_1, .int .i64 a0_2, .int .i64 a0_3, .slice A0_4 l0_4.length c0_4, .slice A0_5 l0_5.length c0_5]) (t := 29) ?hr ?_; (case hd => rfl); (case hg => rfl); (case hr => first | (go_simp; done) | (go_simp; rfl)); intro gb286 hg w241 hbox hb; have _ := aM (below_step (bS HB.out) hb); have _ := aM (hbox); have _ := aM (leG hg (bS HB.out)); have _ := aM (leG hg (bS HB.out)); clear HB; rename_i HB BK286 GW286 GE286; clear hb hbox hg; obtain ⟨hcz242_0, hfz242_0, hcz242_1, hfz242_1, hcz242_2, hfz242_2, hcz242_3, hfz242_3, hcz242_4, hfz242_4, hcz242_5, hfz242_5⟩ := bk6 BK286.out) | ((with_reducible refine gate_callee (f := 50) rfl ?_); refine gL (some 9) rfl rfl Try.func50 (by kernel_rfl) rfl #[.int .i64 a0_0] rfl ?_; (with_reducible refine (impl_isKind.calls a0_0 false _ A2.out).mono ?_); rintro e w' ⟨rfl, ⟨nd, rfl⟩⟩; refine ⟨_, rfl, ?_⟩))
  go_ret
  exact ⟨by first | rfl | (simp [errW_none, errW_some] <;> rfl) | (simp [*, errW_none, errW_some] <;> rfl), bS HB.out⟩
 subst c3
 rw [if_pos rfl] at H
 (try dsimp only at H)
 by_cases c4 : a0_1 = 0
 rotate_left
 ·rw [if_neg c4] at H
  have c4b0 : (a0_1 == 0) = false := beq_eq_false_iff_ne.mpr c4
  have c4b1 : (a0_1 != 0) = true := bne_iff_ne.mpr c4
  replace H := Option.bind_eq_some_iff.mp H
  obtain ⟨t288, A2370, H⟩ := H
  (try dsimp only at H)
  have A237 := aM A2370
  clear A2370
  obtain rfl := Option.some.inj H
  go_enter Try.func23, Try.ntmps23
  go_wp2_with (first | ((with_reducible refine gate_dst (N := 1) rfl ?_); (try (refine gate_guard (by rfl) ?_; dsimp only)); refine box_event ?hg (N := 1) ?hd (cs := #[.int .i64 a0_0, .int .i64 a0_1, .int .i64 a0_2, .int .i64 a0_3, .slice A0_4 l0_4.length c0_4, .slice A0_5 l0_5.length c0_5]) (t := 29) ?hr ?_; (case hd => rfl); (case hg => rfl); (case hr => first | (go_simp; done) | (go_simp; rfl)); intro gb286 hg w238 hbox hb; have _ := aM (below_step (bS HB.out) hb); have _ := aM (hbox); have _ := aM (leG hg (bS HB.out)); have _ := aM (leG hg (bS HB.out)); clear HB; rename_i HB BK286 GW286 GE286; clear hb hbox hg; obtain ⟨hcz239_0, hfz239_0, hcz239_1, hfz239_1, hcz239_2, hfz239_2, hcz239_3, hfz239_3, hcz239_4, hfz239_4, hcz239_5, hfz239_5⟩ := bk6 BK286.out) | ((with_reducible refine gate_callee (f := 50) rfl ?_); refine gL (some 9) rfl rfl Try.func50 (by kernel_rfl) rfl #[.int .i64 a0_0] rfl ?_; (with_reducible refine (impl_isKind.calls a0_0 true _ A2.out).mono ?_); rintro e w' ⟨rfl, ⟨nd, rfl⟩⟩; refine ⟨_, rfl, ?_⟩) | ((with_reducible refine gate_callee (f := 60) rfl ?_); refine gL (some 15) rfl rfl Try.func60 (by kernel_rfl) rfl #[.agg #[.int .i64 a0_0, .int .i64 a0_1, .int .i64 a0_2, .int .i64 a0_3, .slice A0_4 l0_4.length c0_4, .slice A0_5 l0_5.length c0_5]] rfl ?_; (with_reducible refine (impl_isFault.calls a0_0 a0_1 a0_2 a0_3 _ _ l0_4 _ _ l0_5 t288 _ ?side1 ?side2 ?side3 ?side4 A237.out).mono ?_); (case side1 => repeat (first | exact (Kd.C_below HR0_4.out (bS HB.out)) | (with_reducible refine Kd.C_alloc ?_ _) | (with_reducible refine Kd.C_drewN ?_ _) | (with_reducible refine Kd.C_drew ?_))); (case side2 => exact HC0_4.out); (case side3 => repeat (first | exact (Kd.C_below HR0_5.out (bS HB.out)) | (with_reducible refine Kd.C_alloc ?_ _) | (with_reducible refine Kd.C_drewN ?_ _) | (with_reducible refine Kd.C_drew ?_))); (case side4 => exact HC0_5.out); rintro e w240 ⟨rfl, hb⟩; refine ⟨_, rfl, ?_⟩; have _ := aM (kB BK286.out hb); have _ := aM (below_step (bS HB.out) hb); clear BK286 HB; rename_i BK286 HB; (try clear hb)))
  go_ret
  exact ⟨by first | rfl | (simp [errW_none, errW_some] <;> rfl) | (simp [*, errW_none, errW_some] <;> rfl), bS HB.out⟩
 rw [if_pos c4] at H
 have c4b0 : (a0_1 == 0) = true := beq_iff_eq.mpr c4
 have c4b1 : (a0_1 != 0) = false := bne_eq_false_iff_eq.mpr c4
 clear c4
 replace H := Option.bind_eq_some_iff.mp H
 obtain ⟨⟨t289, t290, t291, t292, t293, t294⟩, A50, H⟩ := H
 (try dsimp only at H)
 have A5 := aM A50
 clear A50
 have HC6 := aM H
 clear H
 go_enter Try.func23, Try.ntmps23
 go_upto_region 6 with (first | ((with_reducible refine gate_dst (N := 1) rfl ?_); (try (refine gate_guard (by rfl) ?_; dsimp only)); refine box_event ?hg (N := 1) ?hd (cs := #[.int .i64 a0_0, .int .i64 a0_1, .int .i64 a0_2, .int .i64 a0_3, .slice A0_4 l0_4.length c0_4, .slice A0_5 l0_5.length c0_5]) (t := 29) ?hr ?_; (case hd => rfl); (case hg => rfl); (case hr => first | (go_simp; done) | (go_simp; rfl)); intro gb286 hg w7 hbox hb; have _ := aM (below_step (bS HB.out) hb); have _ := aM (hbox); have _ := aM (leG hg (bS HB.out)); have _ := aM (leG hg (bS HB.out)); clear HB; rename_i HB BK286 GW286 GE286; clear hb hbox hg; obtain ⟨hcz8_0, hfz8_0, hcz8_1, hfz8_1, hcz8_2, hfz8_2, hcz8_3, hfz8_3, hcz8_4, hfz8_4, hcz8_5, hfz8_5⟩ := bk6 BK286.out) | ((with_reducible refine gate_callee (f := 50) rfl ?_); refine gL (some 9) rfl rfl Try.func50 (by kernel_rfl) rfl #[.int .i64 a0_0] rfl ?_; (with_reducible refine (impl_isKind.calls a0_0 true _ A2.out).mono ?_); rintro e w' ⟨rfl, ⟨nd, rfl⟩⟩; refine ⟨_, rfl, ?_⟩; (try (rw [drewN_self w7]; generalize hq_ : World.drewN w7 _ = w7; have n0_ : Aside0 (w7.heap[gb286]? = some (.cells #[.int .i64 a0_0, .int .i64 a0_1, .int .i64 a0_2, .int .i64 a0_3, .slice A0_4 l0_4.length c0_4, .slice A0_5 l0_5.length c0_5] 29 (0, 0))) := ⟨by rw [← hq_]; exact (kA BK286.out)⟩; have n1_ : Aside0 (Below w.heap.size w w7) := ⟨by rw [← hq_]; exact (bS HB.out)⟩; clear BK286 HB hq_; have BK286 := n0_; have HB := n1_; clear n0_ n1_; have hcugb286_0 : w7.cell? ⟨gb286, 0, none⟩ = some (.int .i64 a0_0) := (blk_cell BK286.out 0).trans rfl; have hfugb286_0 := blk_frozen BK286.out 0; have hcugb286_1 : w7.cell? ⟨gb286, 1, none⟩ = some (.int .i64 a0_1) := (blk_cell BK286.out 1).trans rfl; have hfugb286_1 := blk_frozen BK286.out 1; have hcugb286_2 : w7.cell? ⟨gb286, 2, none⟩ = some (.int .i64 a0_2) := (blk_cell BK286.out 2).trans rfl; have hfugb286_2 := blk_frozen BK286.out 2; have hcugb286_3 : w7.cell? ⟨gb286, 3, none⟩ = some (.int .i64 a0_3) := (blk_cell BK286.out 3).trans rfl; have hfugb286_3 := blk_frozen BK286.out 3; have hcugb286_4 : w7.cell? ⟨gb286, 4, none⟩ = some (.slice A0_4 l0_4.length c0_4) := (blk_cell BK286.out 4).trans rfl; have hfugb286_4 := blk_frozen BK286.out 4; have hcugb286_5 : w7.cell? ⟨gb286, 5, none⟩ = some (.slice A0_5 l0_5.length c0_5) := (blk_cell BK286.out 5).trans rfl; have hfugb286_5 := blk_frozen BK286.out 5))) | ((with_reducible refine gate_callee (f := 61) rfl ?_); refine gL (some 19) rfl rfl Try.func61 (by kernel_rfl) rfl #[.int .i64 a0_0] rfl ?_; (with_reducible refine (impl_shape.calls k a0_0 t289 t290 t291 t292 t293 t294 _ A5.out).mono ?_); rintro e w9 ⟨rfl, hb⟩; refine ⟨_, rfl, ?_⟩; have _ := aM (kB BK286.out hb); have _ := aM (below_step (bS HB.out) hb); clear BK286 HB; rename_i BK286 HB; (try clear hb)) | ((with_reducible refine gate_dst (N := 3) rfl ?_); (try (refine gate_guard (by rfl) ?_; dsimp only)); refine box_event ?hg (N := 3) ?hd (cs := #[.int .i64 0, .int .i64 0]) (t := 81) ?hr ?_; (case hd => rfl); (case hg => rfl); (case hr => first | (go_simp; done) | (go_simp; rfl)); intro gb295 hg w10 hbox hb; have _ := aM (kB BK286.out hb); have _ := aM (below_step (bS HB.out) hb); have _ := aM (hbox); have _ := aM (leG hg (bS HB.out)); have _ := aM (leG hg (bS HB.out)); have _ := aM (neL hg (kA BK286.out)); have _ := aM (neG hg (kA BK286.out)); clear BK286 HB; rename_i BK286 HB BK295 GW295 GE295 NB286_295 NB295_286; clear hb hbox hg) | ((with_reducible refine gate_dst (N := 4) rfl ?_); (try (refine gate_guard (by rfl) ?_; dsimp only)); refine box_event ?hg (N := 4) ?hd (cs := #[.int .i64 0, .int .i64 0]) (t := 81) ?hr ?_; (case hd => rfl); (case hg => rfl); (case hr => first | (go_simp; done) | (go_simp; rfl)); intro gb296 hg w11 hbox hb; have _ := aM (kB BK286.out hb); have _ := aM (kB BK295.out hb); have _ := aM (below_step (bS HB.out) hb); have _ := aM (hbox); have _ := aM (leG hg (bS HB.out)); have _ := aM (leG hg (bS HB.out)); have _ := aM (neL hg (kA BK286.out)); have _ := aM (neG hg (kA BK286.out)); have _ := aM (neL hg (kA BK295.out)); have _ := aM (neG hg (kA BK295.out)); clear BK286 BK295 HB; rename_i BK286 BK295 HB BK296 GW296 GE296 NB286_296 NB296_286 NB295_296 NB296_295; clear hb hbox hg; have hnb12 := NB295_286.out; have hnc12 := NB286_295.out; have hnb13 := NB295_296.out; have hnc13 := NB296_295.out; obtain ⟨hcz14_0, hfz14_0, hcz14_1, hfz14_1⟩ := bk2 BK295.out; have hnb15 := NB296_286.out; have hnc15 := NB286_296.out; obtain ⟨hcz16_0, hfz16_0, hcz16_1, hfz16_1⟩ := bk2 BK296.out))
 (try simp only [Act.put, List.setIfInBounds_toArray, List.set_cons_zero, List.set_cons_succ])
 go_cut [49] (fun v49 wc => ∃ (kq : Nat) (x49_5 : Bool), v49 = .bool x49_5 ∧ Aside0 (impl_RespOk.j0 kq t293 t294 x49_5 a0_0 a0_1 a0_2 a0_3 l0_4 l0_5 t291 t292 = some r) ∧ Aside0 (kq ≤ k) ∧ Aside0 (wc.heap[gb286]? = some (.cells #[.int .i64 a0_0, .int .i64 a0_1, .int .i64 a0_2, .int .i64 a0_3, (.slice A0_4 l0_4.length c0_4), (.slice A0_5 l0_5.length c0_5)] 29 (0, 0))) ∧ Aside0 (wc.heap[gb295]? = some (.cells #[.int .i64 t289, .int .i64 t290] 81 (0, 0))) ∧ Aside0 (wc.heap[gb296]? = some (.cells #[.int .i64 t291, .int .i64 t292] 81 (0, 0))) ∧ Aside0 (Below w.heap.size w wc))
 case first =>
  have H := HC6.out
  clear HC6
  replace H := Option.bind_eq_some_iff.mp H
  obtain ⟨t297, A170, H⟩ := H
  (try dsimp only at H)
  have A17 := aM A170
  clear A170
  by_cases c18 : t297 = true
  rotate_left
  ·replace c18 := Bool.eq_false_iff.mpr c18
   subst c18
   rw [if_neg (show ¬ (false = true) by decide)] at H
   (try dsimp only at H)
   have H' := aM H
   clear H
   have hnb34 := NB286_295.out
   have hnc34 := NB295_286.out
   have hnb35 := NB286_296.out
   have hnc35 := NB296_286.out
   obtain ⟨hcz36_0, hfz36_0, hcz36_1, hfz36_1, hcz36_2, hfz36_2, hcz36_3, hfz36_3, hcz36_4, hfz36_4, hcz36_5, hfz36_5⟩ := bk6 BK286.out
   have hnb37 := NB295_296.out
   have hnc37 := NB296_295.out
   obtain ⟨hcz38_0, hfz38_0, hcz38_1, hfz38_1⟩ := bk2 BK295.out
   go_wp2_with (first | ((with_reducible refine gate_callee (f := 62) rfl ?_); refine gL (some 31) rfl rfl Try.func62 (by kernel_rfl) rfl #[.int .i64 (l0_4.length : Int), .int .i64 t289, .int .i64 t290] rfl ?_; (with_reducible refine (impl_in.calls (l0_4.length : Int) t289 t290 false _ A17.out).mono ?_); rintro e w' ⟨rfl, ⟨nd, rfl⟩⟩; refine ⟨_, rfl, ?_⟩))
   go_meet
   case rel => exact ⟨_, (true), (by first | rfl | (simp; done) | (simp [*]; done)), H', ⟨by first | omega | exact Nat.le_refl _⟩, ⟨kX BK286.out⟩, ⟨kX BK295.out⟩, ⟨kX BK296.out⟩, ⟨bS HB.out⟩⟩
  subst c18
  rw [if_pos rfl] at H
  (try dsimp only at H)
  replace H := Option.bind_eq_some_iff.mp H
  obtain ⟨t298, A190, H⟩ := H
  (try dsimp only at H)
  have A19 := aM A190
  clear A190
  by_cases c20 : t298 = true
  rotate_left
  ·replace c20 := Bool.eq_false_iff.mpr c20
   subst c20
   rw [if_neg (show ¬ (false = true) by decide)] at H
   (try dsimp only at H)
   have H' := aM H
   clear H
   have hnb28 := NB286_295.out
   have hnc28 := NB295_286.out
   have hnb29 := NB286_296.out
   have hnc29 := NB296_286.out
   obtain ⟨hcz30_0, hfz30_0, hcz30_1, hfz30_1, hcz30_2, hfz30_2, hcz30_3, hfz30_3, hcz30_4, hfz30_4, hcz30_5, hfz30_5⟩ := bk6 BK286.out
   have hnb31 := NB295_296.out
   have hnc31 := NB296_295.out
   obtain ⟨hcz32_0, hfz32_0, hcz32_1, hfz32_1⟩ := bk2 BK295.out
   go_wp2_with (first | ((with_reducible refine gate_callee (f := 62) rfl ?_); refine gL (some 31) rfl rfl Try.func62 (by kernel_rfl) rfl #[.int .i64 (l0_4.length : Int), .int .i64 t289, .int .i64 t290] rfl ?_; (with_reducible refine (impl_in.calls (l0_4.length : Int) t289 t290 true _ A17.out).mono ?_); rintro e w' ⟨rfl, ⟨nd, rfl⟩⟩; refine ⟨_, rfl, ?_⟩; obtain ⟨hcz33_0, hfz33_0, hcz33_1, hfz33_1⟩ := bk2 BK296.out) | (go_at_call 62; (with_reducible refine (impl_in.calls (l0_5.length : Int) t291 t292 false _ A19.out).mono ?_); rintro e w' ⟨rfl, ⟨nd, rfl⟩⟩))
   go_meet
   case rel => exact ⟨_, (true), (by first | rfl | (simp; done) | (simp [*]; done)), H', ⟨by first | omega | exact Nat.le_refl _⟩, ⟨kX BK286.out⟩, ⟨kX BK295.out⟩, ⟨kX BK296.out⟩, ⟨bS HB.out⟩⟩
  subst c20
  rw [if_pos rfl] at H
  (try dsimp only at H)
  replace H := Option.bind_eq_some_iff.mp H
  obtain ⟨t299, A210, H⟩ := H
  (try dsimp only at H)
  have A21 := aM A210
  clear A210
  have H' := aM H
  clear H
  have hnb22 := NB286_295.out
  have hnc22 := NB295_286.out
  have hnb23 := NB286_296.out
  have hnc23 := NB296_286.out
  obtain ⟨hcz24_0, hfz24_0, hcz24_1, hfz24_1, hcz24_2, hfz24_2, hcz24_3, hfz24_3, hcz24_4, hfz24_4, hcz24_5, hfz24_5⟩ := bk6 BK286.out
  have hnb25 := NB295_296.out
  have hnc25 := NB296_295.out
  obtain ⟨hcz26_0, hfz26_0, hcz26_1, hfz26_1⟩ := bk2 BK295.out
  go_wp2_with (first | ((with_reducible refine gate_callee (f := 62) rfl ?_); refine gL (some 31) rfl rfl Try.func62 (by kernel_rfl) rfl #[.int .i64 (l0_4.length : Int), .int .i64 t289, .int .i64 t290] rfl ?_; (with_reducible refine (impl_in.calls (l0_4.length : Int) t289 t290 true _ A17.out).mono ?_); rintro e w' ⟨rfl, ⟨nd, rfl⟩⟩; refine ⟨_, rfl, ?_⟩; obtain ⟨hcz27_0, hfz27_0, hcz27_1, hfz27_1⟩ := bk2 BK296.out) | (go_at_call 62; (with_reducible refine (impl_in.calls (l0_5.length : Int) t291 t292 true _ A19.out).mono ?_); rintro e w' ⟨rfl, ⟨nd, rfl⟩⟩) | (go_at_call 63; (with_reducible refine (impl_allWords.calls _ _ l0_4 t299 _ ?side1 ?side2 A21.out).mono ?_); (case side1 => exact Kd.C_below HR0_4.out (bS HB.out)); (case side2 => exact HC0_4.out); rintro e w' ⟨rfl, ⟨nd, rfl⟩⟩))
  go_meet
  case rel => exact ⟨_, (!t299), (by first | rfl | (simp; done) | (simp [*]; done)), H', ⟨by first | omega | exact Nat.le_refl _⟩, ⟨kX BK286.out⟩, ⟨kX BK295.out⟩, ⟨kX BK296.out⟩, ⟨bS HB.out⟩⟩
 case rest =>
  clear HC6
  try clear c3
  try clear c4
  try clear c4b0
  try clear c4b1
  try clear hcz14_0
  try clear hcz14_1
  try clear hcz16_0
  try clear hcz16_1
  try clear hcz8_0
  try clear hcz8_1
  try clear hcz8_2
  try clear hcz8_3
  try clear hcz8_4
  try clear hcz8_5
  try clear hfz14_0
  try clear hfz14_1
  try clear hfz16_0
  try clear hfz16_1
  try clear hfz8_0
  try clear hfz8_1
  try clear hfz8_2
  try clear hfz8_3
  try clear hfz8_4
  try clear hfz8_5
  obtain ⟨kq, x49_5, rfl, HA, HJ5, BK286, BK295, BK296, HB⟩ := hcut
  cases kq with
  | zero => exact absurd HA.out (by simp [impl_RespOk.j0])
  | succ kj5 =>
   have H := HA.out
   clear HA
   simp only [impl_RespOk.j0] at H
   by_cases c39 : x49_5 = true
   ·subst c39
    rw [if_pos rfl] at H
    (try dsimp only at H)
    obtain rfl := Option.some.inj H
    go_wp2
    go_ret
    exact ⟨by first | rfl | (simp [errW_none, errW_some] <;> rfl) | (simp [*, errW_none, errW_some] <;> rfl), bS HB.out⟩
   ·replace c39 := Bool.eq_false_iff.mpr c39
    subst c39
    rw [if_neg (show ¬ (false = true) by decide)] at H
    (try dsimp only at H)
    by_cases c40 : t292 > 1
    rotate_left
    ·rw [if_neg c40] at H
     have c40b0 : decide (1 < t292) = false := decide_eq_false c40
     clear c40
     by_cases c142 : t293 = 0
     rotate_left
     ·rw [if_neg c142] at H
      have c142b0 : (t293 == 0) = false := beq_eq_false_iff_ne.mpr c142
      have c142b1 : (t293 != 0) = true := bne_iff_ne.mpr c142
      by_cases c193 : t293 > 0
      rotate_left
      ·rw [if_neg c193] at H
       have c193b0 : decide (0 < t293) = false := decide_eq_false c193
       clear c193
       by_cases c219 : t294 = true
       rotate_left
       ·replace c219 := Bool.eq_false_iff.mpr c219
        subst c219
        rw [if_neg (show ¬ (false = true) by decide)] at H
        (try dsimp only at H)
        obtain rfl := Option.some.inj H
        have hnb232 := NB296_286.out
        have hnc232 := NB286_296.out
        have hnb233 := NB296_295.out
        have hnc233 := NB295_296.out
        obtain ⟨hcz234_0, hfz234_0, hcz234_1, hfz234_1⟩ := bk2 BK296.out
        have hnb235 := NB286_295.out
        have hnc235 := NB295_286.out
        obtain ⟨hcz236_0, hfz236_0, hcz236_1, hfz236_1, hcz236_2, hfz236_2, hcz236_3, hfz236_3, hcz236_4, hfz236_4, hcz236_5, hfz236_5⟩ := bk6 BK286.out
        go_wp2
        go_ret
        exact ⟨by first | rfl | (simp [errW_none, errW_some] <;> rfl) | (simp [*, errW_none, errW_some] <;> rfl), bS HB.out⟩
       subst c219
       rw [if_pos rfl] at H
       (try dsimp only at H)
       replace H := Option.bind_eq_some_iff.mp H
       obtain ⟨t311, A2200, H⟩ := H
       (try dsimp only at H)
       have A220 := aM A2200
       clear A2200
       by_cases c221 : t311 = true
       rotate_left
       ·replace c221 := Bool.eq_false_iff.mpr c221
        subst c221
        rw [if_neg (show ¬ (false = true) by decide)] at H
        (try dsimp only at H)
        obtain rfl := Option.some.inj H
        have hnb227 := NB296_286.out
        have hnc227 := NB286_296.out
        have hnb228 := NB296_295.out
        have hnc228 := NB295_296.out
        obtain ⟨hcz229_0, hfz229_0, hcz229_1, hfz229_1⟩ := bk2 BK296.out
        have hnb230 := NB286_295.out
        have hnc230 := NB295_286.out
        obtain ⟨hcz231_0, hfz231_0, hcz231_1, hfz231_1, hcz231_2, hfz231_2, hcz231_3, hfz231_3, hcz231_4, hfz231_4, hcz231_5, hfz231_5⟩ := bk6 BK286.out
        go_wp2_with (first | (go_at_call 64; (with_reducible refine (impl_isWord.calls a0_2 false _ A220.out).mono ?_); rintro e w' ⟨rfl, ⟨nd, rfl⟩⟩))
        go_ret
        exact ⟨by first | rfl | (simp [errW_none, errW_some] <;> rfl) | (simp [*, errW_none, errW_some] <;> rfl), bS HB.out⟩
       subst c221
       rw [if_pos rfl] at H
       (try dsimp only at H)
       obtain rfl := Option.some.inj H
       have hnb222 := NB296_286.out
       have hnc222 := NB286_296.out
       have hnb223 := NB296_295.out
       have hnc223 := NB295_296.out
       obtain ⟨hcz224_0, hfz224_0, hcz224_1, hfz224_1⟩ := bk2 BK296.out
       have hnb225 := NB286_295.out
       have hnc225 := NB295_286.out
       obtain ⟨hcz226_0, hfz226_0, hcz226_1, hfz226_1, hcz226_2, hfz226_2, hcz226_3, hfz226_3, hcz226_4, hfz226_4, hcz226_5, hfz226_5⟩ := bk6 BK286.out
       go_wp2_with (first | (go_at_call 64; (with_reducible refine (impl_isWord.calls a0_2 true _ A220.out).mono ?_); rintro e w' ⟨rfl, ⟨nd, rfl⟩⟩))
       go_ret
       exact ⟨by first | rfl | (simp [errW_none, errW_some] <;> rfl) | (simp [*, errW_none, errW_some] <;> rfl), bS HB.out⟩
      rw [if_pos c193] at H
      have c193b0 : decide (0 < t293) = true := decide_eq_true c193
      clear c193
      replace H := Option.bind_eq_some_iff.mp H
      obtain ⟨t309, A1940, H⟩ := H
      (try dsimp only at H)
      have A194 := aM A1940
      clear A1940
      by_cases c195 : t309 = true
      rotate_left
      ·replace c195 := Bool.eq_false_iff.mpr c195
       subst c195
       rw [if_neg (show ¬ (false = true) by decide)] at H
       (try dsimp only at H)
       obtain rfl := Option.some.inj H
       have hnb214 := NB296_286.out
       have hnc214 := NB286_296.out
       have hnb215 := NB296_295.out
       have hnc215 := NB295_296.out
       obtain ⟨hcz216_0, hfz216_0, hcz216_1, hfz216_1⟩ := bk2 BK296.out
       have hnb217 := NB286_295.out
       have hnc217 := NB295_286.out
       obtain ⟨hcz218_0, hfz218_0, hcz218_1, hfz218_1, hcz218_2, hfz218_2, hcz218_3, hfz218_3, hcz218_4, hfz218_4, hcz218_5, hfz218_5⟩ := bk6 BK286.out
       go_wp2_with (first | (go_at_call 62; (with_reducible refine (impl_in.calls a0_3 1 t293 false _ A194.out).mono ?_); rintro e w' ⟨rfl, ⟨nd, rfl⟩⟩))
       go_ret
       exact ⟨by first | rfl | (simp [errW_none, errW_some] <;> rfl) | (simp [*, errW_none, errW_some] <;> rfl), bS HB.out⟩
      subst c195
      rw [if_pos rfl] at H
      (try dsimp only at H)
      by_cases c196 : t294 = true
      rotate_left
      ·replace c196 := Bool.eq_false_iff.mpr c196
       subst c196
       rw [if_neg (show ¬ (false = true) by decide)] at H
       (try dsimp only at H)
       obtain rfl := Option.some.inj H
       have hnb209 := NB296_286.out
       have hnc209 := NB286_296.out
       have hnb210 := NB296_295.out
       have hnc210 := NB295_296.out
       obtain ⟨hcz211_0, hfz211_0, hcz211_1, hfz211_1⟩ := bk2 BK296.out
       have hnb212 := NB286_295.out
       have hnc212 := NB295_286.out
       obtain ⟨hcz213_0, hfz213_0, hcz213_1, hfz213_1, hcz213_2, hfz213_2, hcz213_3, hfz213_3, hcz213_4, hfz213_4, hcz213_5, hfz213_5⟩ := bk6 BK286.out
       go_wp2_with (first | (go_at_call 62; (with_reducible refine (impl_in.calls a0_3 1 t293 true _ A194.out).mono ?_); rintro e w' ⟨rfl, ⟨nd, rfl⟩⟩))
       go_ret
       exact ⟨by first | rfl | (simp [errW_none, errW_some] <;> rfl) | (simp [*, errW_none, errW_some] <;> rfl), bS HB.out⟩
      subst c196
      rw [if_pos rfl] at H
      (try dsimp only at H)
      replace H := Option.bind_eq_some_iff.mp H
      obtain ⟨t310, A1970, H⟩ := H
      (try dsimp only at H)
      have A197 := aM A1970
      clear A1970
      by_cases c198 : t310 = true
      rotate_left
      ·replace c198 := Bool.eq_false_iff.mpr c198
       subst c198
       rw [if_neg (show ¬ (false = true) by decide)] at H
       (try dsimp only at H)
       obtain rfl := Option.some.inj H
       have hnb204 := NB296_286.out
       have hnc204 := NB286_296.out
       have hnb205 := NB296_295.out
       have hnc205 := NB295_296.out
       obtain ⟨hcz206_0, hfz206_0, hcz206_1, hfz206_1⟩ := bk2 BK296.out
       have hnb207 := NB286_295.out
       have hnc207 := NB295_286.out
       obtain ⟨hcz208_0, hfz208_0, hcz208_1, hfz208_1, hcz208_2, hfz208_2, hcz208_3, hfz208_3, hcz208_4, hfz208_4, hcz208_5, hfz208_5⟩ := bk6 BK286.out
       go_wp2_with (first | (go_at_call 62; (with_reducible refine (impl_in.calls a0_3 1 t293 true _ A194.out).mono ?_); rintro e w' ⟨rfl, ⟨nd, rfl⟩⟩) | (go_at_call 64; (with_reducible refine (impl_isWord.calls a0_2 false _ A197.out).mono ?_); rintro e w' ⟨rfl, ⟨nd, rfl⟩⟩))
       go_ret
       exact ⟨by first | rfl | (simp [errW_none, errW_some] <;> rfl) | (simp [*, errW_none, errW_some] <;> rfl), bS HB.out⟩
      subst c198
      rw [if_pos rfl] at H
      (try dsimp only at H)
      obtain rfl := Option.some.inj H
      have hnb199 := NB296_286.out
      have hnc199 := NB286_296.out
      have hnb200 := NB296_295.out
      have hnc200 := NB295_296.out
      obtain ⟨hcz201_0, hfz201_0, hcz201_1, hfz201_1⟩ := bk2 BK296.out
      have hnb202 := NB286_295.out
      have hnc202 := NB295_286.out
      obtain ⟨hcz203_0, hfz203_0, hcz203_1, hfz203_1, hcz203_2, hfz203_2, hcz203_3, hfz203_3, hcz203_4, hfz203_4, hcz203_5, hfz203_5⟩ := bk6 BK286.out
      go_wp2_with (first | (go_at_call 62; (with_reducible refine (impl_in.calls a0_3 1 t293 true _ A194.out).mono ?_); rintro e w' ⟨rfl, ⟨nd, rfl⟩⟩) | (go_at_call 64; (with_reducible refine (impl_isWord.calls a0_2 true _ A197.out).mono ?_); rintro e w' ⟨rfl, ⟨nd, rfl⟩⟩))
      go_ret
      exact ⟨by first | rfl | (simp [errW_none, errW_some] <;> rfl) | (simp [*, errW_none, errW_some] <;> rfl), bS HB.out⟩
     rw [if_pos c142] at H
     have c142b0 : (t293 == 0) = true := beq_iff_eq.mpr c142
     have c142b1 : (t293 != 0) = false := bne_eq_false_iff_eq.mpr c142
     clear c142
     by_cases c143 : a0_3 = 0
     rotate_left
     ·rw [if_neg c143] at H
      have c143b0 : (a0_3 == 0) = false := beq_eq_false_iff_ne.mpr c143
      have c143b1 : (a0_3 != 0) = true := bne_iff_ne.mpr c143
      obtain rfl := Option.some.inj H
      have hnb188 := NB296_286.out
      have hnc188 := NB286_296.out
      have hnb189 := NB296_295.out
      have hnc189 := NB295_296.out
      obtain ⟨hcz190_0, hfz190_0, hcz190_1, hfz190_1⟩ := bk2 BK296.out
      have hnb191 := NB286_295.out
      have hnc191 := NB295_286.out
      obtain ⟨hcz192_0, hfz192_0, hcz192_1, hfz192_1, hcz192_2, hfz192_2, hcz192_3, hfz192_3, hcz192_4, hfz192_4, hcz192_5, hfz192_5⟩ := bk6 BK286.out
      go_wp2
      go_ret
      exact ⟨by first | rfl | (simp [errW_none, errW_some] <;> rfl) | (simp [*, errW_none, errW_some] <;> rfl), bS HB.out⟩
     rw [if_pos c143] at H
     have c143b0 : (a0_3 == 0) = true := beq_iff_eq.mpr c143
     have c143b1 : (a0_3 != 0) = false := bne_eq_false_iff_eq.mpr c143
     clear c143
     by_cases c144 : t293 > 0
     rotate_left
     ·rw [if_neg c144] at H
      have c144b0 : decide (0 < t293) = false := decide_eq_false c144
      clear c144
      by_cases c170 : t294 = true
      rotate_left
      ·replace c170 := Bool.eq_false_iff.mpr c170
       subst c170
       rw [if_neg (show ¬ (false = true) by decide)] at H
       (try dsimp only at H)
       obtain rfl := Option.some.inj H
       have hnb183 := NB296_286.out
       have hnc183 := NB286_296.out
       have hnb184 := NB296_295.out
       have hnc184 := NB295_296.out
       obtain ⟨hcz185_0, hfz185_0, hcz185_1, hfz185_1⟩ := bk2 BK296.out
       have hnb186 := NB286_295.out
       have hnc186 := NB295_286.out
       obtain ⟨hcz187_0, hfz187_0, hcz187_1, hfz187_1, hcz187_2, hfz187_2, hcz187_3, hfz187_3, hcz187_4, hfz187_4, hcz187_5, hfz187_5⟩ := bk6 BK286.out
       go_wp2
       go_ret
       exact ⟨by first | rfl | (simp [errW_none, errW_some] <;> rfl) | (simp [*, errW_none, errW_some] <;> rfl), bS HB.out⟩
      subst c170
      rw [if_pos rfl] at H
      (try dsimp only at H)
      replace H := Option.bind_eq_some_iff.mp H
      obtain ⟨t308, A1710, H⟩ := H
      (try dsimp only at H)
      have A171 := aM A1710
      clear A1710
      by_cases c172 : t308 = true
      rotate_left
      ·replace c172 := Bool.eq_false_iff.mpr c172
       subst c172
       rw [if_neg (show ¬ (false = true) by decide)] at H
       (try dsimp only at H)
       obtain rfl := Option.some.inj H
       have hnb178 := NB296_286.out
       have hnc178 := NB286_296.out
       have hnb179 := NB296_295.out
       have hnc179 := NB295_296.out
       obtain ⟨hcz180_0, hfz180_0, hcz180_1, hfz180_1⟩ := bk2 BK296.out
       have hnb181 := NB286_295.out
       have hnc181 := NB295_286.out
       obtain ⟨hcz182_0, hfz182_0, hcz182_1, hfz182_1, hcz182_2, hfz182_2, hcz182_3, hfz182_3, hcz182_4, hfz182_4, hcz182_5, hfz182_5⟩ := bk6 BK286.out
       go_wp2_with (first | (go_at_call 64; (with_reducible refine (impl_isWord.calls a0_2 false _ A171.out).mono ?_); rintro e w' ⟨rfl, ⟨nd, rfl⟩⟩))
       go_ret
       exact ⟨by first | rfl | (simp [errW_none, errW_some] <;> rfl) | (simp [*, errW_none, errW_some] <;> rfl), bS HB.out⟩
      subst c172
      rw [if_pos rfl] at H
      (try dsimp only at H)
      obtain rfl := Option.some.inj H
      have hnb173 := NB296_286.out
      have hnc173 := NB286_296.out
      have hnb174 := NB296_295.out
      have hnc174 := NB295_296.out
      obtain ⟨hcz175_0, hfz175_0, hcz175_1, hfz175_1⟩ := bk2 BK296.out
      have hnb176 := NB286_295.out
      have hnc176 := NB295_286.out
      obtain ⟨hcz177_0, hfz177_0, hcz177_1, hfz177_1, hcz177_2, hfz177_2, hcz177_3, hfz177_3, hcz177_4, hfz177_4, hcz177_5, hfz177_5⟩ := bk6 BK286.out
      go_wp2_with (first | (go_at_call 64; (with_reducible refine (impl_isWord.calls a0_2 true _ A171.out).mono ?_); rintro e w' ⟨rfl, ⟨nd, rfl⟩⟩))
      go_ret
      exact ⟨by first | rfl | (simp [errW_none, errW_some] <;> rfl) | (simp [*, errW_none, errW_some] <;> rfl), bS HB.out⟩
     rw [if_pos c144] at H
     have c144b0 : decide (0 < t293) = true := decide_eq_true c144
     clear c144
     replace H := Option.bind_eq_some_iff.mp H
     obtain ⟨t306, A1450, H⟩ := H
     (try dsimp only at H)
     have A145 := aM A1450
     clear A1450
     by_cases c146 : t306 = true
     rotate_left
     ·replace c146 := Bool.eq_false_iff.mpr c146
      subst c146
      rw [if_neg (show ¬ (false = true) by decide)] at H
      (try dsimp only at H)
      obtain rfl := Option.some.inj H
      have hnb165 := NB296_286.out
      have hnc165 := NB286_296.out
      have hnb166 := NB296_295.out
      have hnc166 := NB295_296.out
      obtain ⟨hcz167_0, hfz167_0, hcz167_1, hfz167_1⟩ := bk2 BK296.out
      have hnb168 := NB286_295.out
      have hnc168 := NB295_286.out
      obtain ⟨hcz169_0, hfz169_0, hcz169_1, hfz169_1, hcz169_2, hfz169_2, hcz169_3, hfz169_3, hcz169_4, hfz169_4, hcz169_5, hfz169_5⟩ := bk6 BK286.out
      go_wp2_with (first | (go_at_call 62; (with_reducible refine (impl_in.calls a0_3 1 t293 false _ A145.out).mono ?_); rintro e w' ⟨rfl, ⟨nd, rfl⟩⟩))
      go_ret
      exact ⟨by first | rfl | (simp [errW_none, errW_some] <;> rfl) | (simp [*, errW_none, errW_some] <;> rfl), bS HB.out⟩
     subst c146
     rw [if_pos rfl] at H
     (try dsimp only at H)
     by_cases c147 : t294 = true
     rotate_left
     ·replace c147 := Bool.eq_false_iff.mpr c147
      subst c147
      rw [if_neg (show ¬ (false = true) by decide)] at H
      (try dsimp only at H)
      obtain rfl := Option.some.inj H
      have hnb160 := NB296_286.out
      have hnc160 := NB286_296.out
      have hnb161 := NB296_295.out
      have hnc161 := NB295_296.out
      obtain ⟨hcz162_0, hfz162_0, hcz162_1, hfz162_1⟩ := bk2 BK296.out
      have hnb163 := NB286_295.out
      have hnc163 := NB295_286.out
      obtain ⟨hcz164_0, hfz164_0, hcz164_1, hfz164_1, hcz164_2, hfz164_2, hcz164_3, hfz164_3, hcz164_4, hfz164_4, hcz164_5, hfz164_5⟩ := bk6 BK286.out
      go_wp2_with (first | (go_at_call 62; (with_reducible refine (impl_in.calls a0_3 1 t293 true _ A145.out).mono ?_); rintro e w' ⟨rfl, ⟨nd, rfl⟩⟩))
      go_ret
      exact ⟨by first | rfl | (simp [errW_none, errW_some] <;> rfl) | (simp [*, errW_none, errW_some] <;> rfl), bS HB.out⟩
     subst c147
     rw [if_pos rfl] at H
     (try dsimp only at H)
     replace H := Option.bind_eq_some_iff.mp H
     obtain ⟨t307, A1480, H⟩ := H
     (try dsimp only at H)
     have A148 := aM A1480
     clear A1480
     by_cases c149 : t307 = true
     rotate_left
     ·replace c149 := Bool.eq_false_iff.mpr c149
      subst c149
      rw [if_neg (show ¬ (false = true) by decide)] at H
      (try dsimp only at H)
      obtain rfl := Option.some.inj H
      have hnb155 := NB296_286.out
      have hnc155 := NB286_296.out
      have hnb156 := NB296_295.out
      have hnc156 := NB295_296.out
      obtain ⟨hcz157_0, hfz157_0, hcz157_1, hfz157_1⟩ := bk2 BK296.out
      have hnb158 := NB286_295.out
      have hnc158 := NB295_286.out
      obtain ⟨hcz159_0, hfz159_0, hcz159_1, hfz159_1, hcz159_2, hfz159_2, hcz159_3, hfz159_3, hcz159_4, hfz159_4, hcz159_5, hfz159_5⟩ := bk6 BK286.out
      go_wp2_with (first | (go_at_call 62; (with_reducible refine (impl_in.calls a0_3 1 t293 true _ A145.out).mono ?_); rintro e w' ⟨rfl, ⟨nd, rfl⟩⟩) | (go_at_call 64; (with_reducible refine (impl_isWord.calls a0_2 false _ A148.out).mono ?_); rintro e w' ⟨rfl, ⟨nd, rfl⟩⟩))
      go_ret
      exact ⟨by first | rfl | (simp [errW_none, errW_some] <;> rfl) | (simp [*, errW_none, errW_some] <;> rfl), bS HB.out⟩
     subst c149
     rw [if_pos rfl] at H
     (try dsimp only at H)
     obtain rfl := Option.some.inj H
     have hnb150 := NB296_286.out
     have hnc150 := NB286_296.out
     have hnb151 := NB296_295.out
     have hnc151 := NB295_296.out
     obtain ⟨hcz152_0, hfz152_0, hcz152_1, hfz152_1⟩ := bk2 BK296.out
     have hnb153 := NB286_295.out
     have hnc153 := NB295_286.out
     obtain ⟨hcz154_0, hfz154_0, hcz154_1, hfz154_1, hcz154_2, hfz154_2, hcz154_3, hfz154_3, hcz154_4, hfz154_4, hcz154_5, hfz154_5⟩ := bk6 BK286.out
     go_wp2_with (first | (go_at_call 62; (with_reducible refine (impl_in.calls a0_3 1 t293 true _ A145.out).mono ?_); rintro e w' ⟨rfl, ⟨nd, rfl⟩⟩) | (go_at_call 64; (with_reducible refine (impl_isWord.calls a0_2 true _ A148.out).mono ?_); rintro e w' ⟨rfl, ⟨nd, rfl⟩⟩))
     go_ret
     exact ⟨by first | rfl | (simp [errW_none, errW_some] <;> rfl) | (simp [*, errW_none, errW_some] <;> rfl), bS HB.out⟩
    rw [if_pos c40] at H
    have c40b0 : decide (1 < t292) = true := decide_eq_true c40
    clear c40
    by_cases c41 : ((l0_5.length : Int) % 8) = 0
    rotate_left
    ·rw [if_neg c41] at H
     have c41b0 : (((l0_5.length : Int) % 8) == 0) = false := beq_eq_false_iff_ne.mpr c41
     have c41b1 : (((l0_5.length : Int) % 8) != 0) = true := bne_iff_ne.mpr c41
     obtain rfl := Option.some.inj H
     have hnb137 := NB296_286.out
     have hnc137 := NB286_296.out
     have hnb138 := NB296_295.out
     have hnc138 := NB295_296.out
     obtain ⟨hcz139_0, hfz139_0, hcz139_1, hfz139_1⟩ := bk2 BK296.out
     have hnb140 := NB286_295.out
     have hnc140 := NB295_286.out
     obtain ⟨hcz141_0, hfz141_0, hcz141_1, hfz141_1, hcz141_2, hfz141_2, hcz141_3, hfz141_3, hcz141_4, hfz141_4, hcz141_5, hfz141_5⟩ := bk6 BK286.out
     go_wp2
     go_ret
     exact ⟨by first | rfl | (simp [errW_none, errW_some] <;> rfl) | (simp [*, errW_none, errW_some] <;> rfl), bS HB.out⟩
    rw [if_pos c41] at H
    have c41b0 : (((l0_5.length : Int) % 8) == 0) = true := beq_iff_eq.mpr c41
    have c41b1 : (((l0_5.length : Int) % 8) != 0) = false := bne_eq_false_iff_eq.mpr c41
    clear c41
    by_cases c42 : t293 = 0
    rotate_left
    ·rw [if_neg c42] at H
     have c42b0 : (t293 == 0) = false := beq_eq_false_iff_ne.mpr c42
     have c42b1 : (t293 != 0) = true := bne_iff_ne.mpr c42
     by_cases c93 : t293 > 0
     rotate_left
     ·rw [if_neg c93] at H
      have c93b0 : decide (0 < t293) = false := decide_eq_false c93
      clear c93
      by_cases c119 : t294 = true
      rotate_left
      ·replace c119 := Bool.eq_false_iff.mpr c119
       subst c119
       rw [if_neg (show ¬ (false = true) by decide)] at H
       (try dsimp only at H)
       obtain rfl := Option.some.inj H
       have hnb132 := NB296_286.out
       have hnc132 := NB286_296.out
       have hnb133 := NB296_295.out
       have hnc133 := NB295_296.out
       obtain ⟨hcz134_0, hfz134_0, hcz134_1, hfz134_1⟩ := bk2 BK296.out
       have hnb135 := NB286_295.out
       have hnc135 := NB295_286.out
       obtain ⟨hcz136_0, hfz136_0, hcz136_1, hfz136_1, hcz136_2, hfz136_2, hcz136_3, hfz136_3, hcz136_4, hfz136_4, hcz136_5, hfz136_5⟩ := bk6 BK286.out
       go_wp2
       go_ret
       exact ⟨by first | rfl | (simp [errW_none, errW_some] <;> rfl) | (simp [*, errW_none, errW_some] <;> rfl), bS HB.out⟩
      subst c119
      rw [if_pos rfl] at H
      (try dsimp only at H)
      replace H := Option.bind_eq_some_iff.mp H
      obtain ⟨t305, A1200, H⟩ := H
      (try dsimp only at H)
      have A120 := aM A1200
      clear A1200
      by_cases c121 : t305 = true
      rotate_left
      ·replace c121 := Bool.eq_false_iff.mpr c121
       subst c121
       rw [if_neg (show ¬ (false = true) by decide)] at H
       (try dsimp only at H)
       obtain rfl := Option.some.inj H
       have hnb127 := NB296_286.out
       have hnc127 := NB286_296.out
       have hnb128 := NB296_295.out
       have hnc128 := NB295_296.out
       obtain ⟨hcz129_0, hfz129_0, hcz129_1, hfz129_1⟩ := bk2 BK296.out
       have hnb130 := NB286_295.out
       have hnc130 := NB295_286.out
       obtain ⟨hcz131_0, hfz131_0, hcz131_1, hfz131_1, hcz131_2, hfz131_2, hcz131_3, hfz131_3, hcz131_4, hfz131_4, hcz131_5, hfz131_5⟩ := bk6 BK286.out
       go_wp2_with (first | (go_at_call 64; (with_reducible refine (impl_isWord.calls a0_2 false _ A120.out).mono ?_); rintro e w' ⟨rfl, ⟨nd, rfl⟩⟩))
       go_ret
       exact ⟨by first | rfl | (simp [errW_none, errW_some] <;> rfl) | (simp [*, errW_none, errW_some] <;> rfl), bS HB.out⟩
      subst c121
      rw [if_pos rfl] at H
      (try dsimp only at H)
      obtain rfl := Option.some.inj H
      have hnb122 := NB296_286.out
      have hnc122 := NB286_296.out
      have hnb123 := NB296_295.out
      have hnc123 := NB295_296.out
      obtain ⟨hcz124_0, hfz124_0, hcz124_1, hfz124_1⟩ := bk2 BK296.out
      have hnb125 := NB286_295.out
      have hnc125 := NB295_286.out
      obtain ⟨hcz126_0, hfz126_0, hcz126_1, hfz126_1, hcz126_2, hfz126_2, hcz126_3, hfz126_3, hcz126_4, hfz126_4, hcz126_5, hfz126_5⟩ := bk6 BK286.out
      go_wp2_with (first | (go_at_call 64; (with_reducible refine (impl_isWord.calls a0_2 true _ A120.out).mono ?_); rintro e w' ⟨rfl, ⟨nd, rfl⟩⟩))
      go_ret
      exact ⟨by first | rfl | (simp [errW_none, errW_some] <;> rfl) | (simp [*, errW_none, errW_some] <;> rfl), bS HB.out⟩
     rw [if_pos c93] at H
     have c93b0 : decide (0 < t293) = true := decide_eq_true c93
     clear c93
     replace H := Option.bind_eq_some_iff.mp H
     obtain ⟨t303, A940, H⟩ := H
     (try dsimp only at H)
     have A94 := aM A940
     clear A940
     by_cases c95 : t303 = true
     rotate_left
     ·replace c95 := Bool.eq_false_iff.mpr c95
      subst c95
      rw [if_neg (show ¬ (false = true) by decide)] at H
      (try dsimp only at H)
      obtain rfl := Option.some.inj H
      have hnb114 := NB296_286.out
      have hnc114 := NB286_296.out
      have hnb115 := NB296_295.out
      have hnc115 := NB295_296.out
      obtain ⟨hcz116_0, hfz116_0, hcz116_1, hfz116_1⟩ := bk2 BK296.out
      have hnb117 := NB286_295.out
      have hnc117 := NB295_286.out
      obtain ⟨hcz118_0, hfz118_0, hcz118_1, hfz118_1, hcz118_2, hfz118_2, hcz118_3, hfz118_3, hcz118_4, hfz118_4, hcz118_5, hfz118_5⟩ := bk6 BK286.out
      go_wp2_with (first | (go_at_call 62; (with_reducible refine (impl_in.calls a0_3 1 t293 false _ A94.out).mono ?_); rintro e w' ⟨rfl, ⟨nd, rfl⟩⟩))
      go_ret
      exact ⟨by first | rfl | (simp [errW_none, errW_some] <;> rfl) | (simp [*, errW_none, errW_some] <;> rfl), bS HB.out⟩
     subst c95
     rw [if_pos rfl] at H
     (try dsimp only at H)
     by_cases c96 : t294 = true
     rotate_left
     ·replace c96 := Bool.eq_false_iff.mpr c96
      subst c96
      rw [if_neg (show ¬ (false = true) by decide)] at H
      (try dsimp only at H)
      obtain rfl := Option.some.inj H
      have hnb109 := NB296_286.out
      have hnc109 := NB286_296.out
      have hnb110 := NB296_295.out
      have hnc110 := NB295_296.out
      obtain ⟨hcz111_0, hfz111_0, hcz111_1, hfz111_1⟩ := bk2 BK296.out
      have hnb112 := NB286_295.out
      have hnc112 := NB295_286.out
      obtain ⟨hcz113_0, hfz113_0, hcz113_1, hfz113_1, hcz113_2, hfz113_2, hcz113_3, hfz113_3, hcz113_4, hfz113_4, hcz113_5, hfz113_5⟩ := bk6 BK286.out
      go_wp2_with (first | (go_at_call 62; (with_reducible refine (impl_in.calls a0_3 1 t293 true _ A94.out).mono ?_); rintro e w' ⟨rfl, ⟨nd, rfl⟩⟩))
      go_ret
      exact ⟨by first | rfl | (simp [errW_none, errW_some] <;> rfl) | (simp [*, errW_none, errW_some] <;> rfl), bS HB.out⟩
     subst c96
     rw [if_pos rfl] at H
     (try dsimp only at H)
     replace H := Option.bind_eq_some_iff.mp H
     obtain ⟨t304, A970, H⟩ := H
     (try dsimp only at H)
     have A97 := aM A970
     clear A970
     by_cases c98 : t304 = true
     rotate_left
     ·replace c98 := Bool.eq_false_iff.mpr c98
      subst c98
      rw [if_neg (show ¬ (false = true) by decide)] at H
      (try dsimp only at H)
      obtain rfl := Option.some.inj H
      have hnb104 := NB296_286.out
      have hnc104 := NB286_296.out
      have hnb105 := NB296_295.out
      have hnc105 := NB295_296.out
      obtain ⟨hcz106_0, hfz106_0, hcz106_1, hfz106_1⟩ := bk2 BK296.out
      have hnb107 := NB286_295.out
      have hnc107 := NB295_286.out
      obtain ⟨hcz108_0, hfz108_0, hcz108_1, hfz108_1, hcz108_2, hfz108_2, hcz108_3, hfz108_3, hcz108_4, hfz108_4, hcz108_5, hfz108_5⟩ := bk6 BK286.out
      go_wp2_with (first | (go_at_call 62; (with_reducible refine (impl_in.calls a0_3 1 t293 true _ A94.out).mono ?_); rintro e w' ⟨rfl, ⟨nd, rfl⟩⟩) | (go_at_call 64; (with_reducible refine (impl_isWord.calls a0_2 false _ A97.out).mono ?_); rintro e w' ⟨rfl, ⟨nd, rfl⟩⟩))
      go_ret
      exact ⟨by first | rfl | (simp [errW_none, errW_some] <;> rfl) | (simp [*, errW_none, errW_some] <;> rfl), bS HB.out⟩
     subst c98
     rw [if_pos rfl] at H
     (try dsimp only at H)
     obtain rfl := Option.some.inj H
     have hnb99 := NB296_286.out
     have hnc99 := NB286_296.out
     have hnb100 := NB296_295.out
     have hnc100 := NB295_296.out
     obtain ⟨hcz101_0, hfz101_0, hcz101_1, hfz101_1⟩ := bk2 BK296.out
     have hnb102 := NB286_295.out
     have hnc102 := NB295_286.out
     obtain ⟨hcz103_0, hfz103_0, hcz103_1, hfz103_1, hcz103_2, hfz103_2, hcz103_3, hfz103_3, hcz103_4, hfz103_4, hcz103_5, hfz103_5⟩ := bk6 BK286.out
     go_wp2_with (first | (go_at_call 62; (with_reducible refine (impl_in.calls a0_3 1 t293 true _ A94.out).mono ?_); rintro e w' ⟨rfl, ⟨nd, rfl⟩⟩) | (go_at_call 64; (with_reducible refine (impl_isWord.calls a0_2 true _ A97.out).mono ?_); rintro e w' ⟨rfl, ⟨nd, rfl⟩⟩))
     go_ret
     exact ⟨by first | rfl | (simp [errW_none, errW_some] <;> rfl) | (simp [*, errW_none, errW_some] <;> rfl), bS HB.out⟩
    rw [if_pos c42] at H
    have c42b0 : (t293 == 0) = true := beq_iff_eq.mpr c42
    have c42b1 : (t293 != 0) = false := bne_eq_false_iff_eq.mpr c42
    clear c42
    by_cases c43 : a0_3 = 0
    rotate_left
    ·rw [if_neg c43] at H
     have c43b0 : (a0_3 == 0) = false := beq_eq_false_iff_ne.mpr c43
     have c43b1 : (a0_3 != 0) = true := bne_iff_ne.mpr c43
     obtain rfl := Option.some.inj H
     have hnb88 := NB296_286.out
     have hnc88 := NB286_296.out
     have hnb89 := NB296_295.out
     have hnc89 := NB295_296.out
     obtain ⟨hcz90_0, hfz90_0, hcz90_1, hfz90_1⟩ := bk2 BK296.out
     have hnb91 := NB286_295.out
     have hnc91 := NB295_286.out
     obtain ⟨hcz92_0, hfz92_0, hcz92_1, hfz92_1, hcz92_2, hfz92_2, hcz92_3, hfz92_3, hcz92_4, hfz92_4, hcz92_5, hfz92_5⟩ := bk6 BK286.out
     go_wp2
     go_ret
     exact ⟨by first | rfl | (simp [errW_none, errW_some] <;> rfl) | (simp [*, errW_none, errW_some] <;> rfl), bS HB.out⟩
    rw [if_pos c43] at H
    have c43b0 : (a0_3 == 0) = true := beq_iff_eq.mpr c43
    have c43b1 : (a0_3 != 0) = false := bne_eq_false_iff_eq.mpr c43
    clear c43
    by_cases c44 : t293 > 0
    rotate_left
    ·rw [if_neg c44] at H
     have c44b0 : decide (0 < t293) = false := decide_eq_false c44
     clear c44
     by_cases c70 : t294 = true
     rotate_left
     ·replace c70 := Bool.eq_false_iff.mpr c70
      subst c70
      rw [if_neg (show ¬ (false = true) by decide)] at H
      (try dsimp only at H)
      obtain rfl := Option.some.inj H
      have hnb83 := NB296_286.out
      have hnc83 := NB286_296.out
      have hnb84 := NB296_295.out
      have hnc84 := NB295_296.out
      obtain ⟨hcz85_0, hfz85_0, hcz85_1, hfz85_1⟩ := bk2 BK296.out
      have hnb86 := NB286_295.out
      have hnc86 := NB295_286.out
      obtain ⟨hcz87_0, hfz87_0, hcz87_1, hfz87_1, hcz87_2, hfz87_2, hcz87_3, hfz87_3, hcz87_4, hfz87_4, hcz87_5, hfz87_5⟩ := bk6 BK286.out
      go_wp2
      go_ret
      exact ⟨by first | rfl | (simp [errW_none, errW_some] <;> rfl) | (simp [*, errW_none, errW_some] <;> rfl), bS HB.out⟩
     subst c70
     rw [if_pos rfl] at H
     (try dsimp only at H)
     replace H := Option.bind_eq_some_iff.mp H
     obtain ⟨t302, A710, H⟩ := H
     (try dsimp only at H)
     have A71 := aM A710
     clear A710
     by_cases c72 : t302 = true
     rotate_left
     ·replace c72 := Bool.eq_false_iff.mpr c72
      subst c72
      rw [if_neg (show ¬ (false = true) by decide)] at H
      (try dsimp only at H)
      obtain rfl := Option.some.inj H
      have hnb78 := NB296_286.out
      have hnc78 := NB286_296.out
      have hnb79 := NB296_295.out
      have hnc79 := NB295_296.out
      obtain ⟨hcz80_0, hfz80_0, hcz80_1, hfz80_1⟩ := bk2 BK296.out
      have hnb81 := NB286_295.out
      have hnc81 := NB295_286.out
      obtain ⟨hcz82_0, hfz82_0, hcz82_1, hfz82_1, hcz82_2, hfz82_2, hcz82_3, hfz82_3, hcz82_4, hfz82_4, hcz82_5, hfz82_5⟩ := bk6 BK286.out
      go_wp2_with (first | (go_at_call 64; (with_reducible refine (impl_isWord.calls a0_2 false _ A71.out).mono ?_); rintro e w' ⟨rfl, ⟨nd, rfl⟩⟩))
      go_ret
      exact ⟨by first | rfl | (simp [errW_none, errW_some] <;> rfl) | (simp [*, errW_none, errW_some] <;> rfl), bS HB.out⟩
     subst c72
     rw [if_pos rfl] at H
     (try dsimp only at H)
     obtain rfl := Option.some.inj H
     have hnb73 := NB296_286.out
     have hnc73 := NB286_296.out
     have hnb74 := NB296_295.out
     have hnc74 := NB295_296.out
     obtain ⟨hcz75_0, hfz75_0, hcz75_1, hfz75_1⟩ := bk2 BK296.out
     have hnb76 := NB286_295.out
     have hnc76 := NB295_286.out
     obtain ⟨hcz77_0, hfz77_0, hcz77_1, hfz77_1, hcz77_2, hfz77_2, hcz77_3, hfz77_3, hcz77_4, hfz77_4, hcz77_5, hfz77_5⟩ := bk6 BK286.out
     go_wp2_with (first | (go_at_call 64; (with_reducible refine (impl_isWord.calls a0_2 true _ A71.out).mono ?_); rintro e w' ⟨rfl, ⟨nd, rfl⟩⟩))
     go_ret
     exact ⟨by first | rfl | (simp [errW_none, errW_some] <;> rfl) | (simp [*, errW_none, errW_some] <;> rfl), bS HB.out⟩
    rw [if_pos c44] at H
    have c44b0 : decide (0 < t293) = true := decide_eq_true c44
    clear c44
    replace H := Option.bind_eq_some_iff.mp H
    obtain ⟨t300, A450, H⟩ := H
    (try dsimp only at H)
    have A45 := aM A450
    clear A450
    by_cases c46 : t300 = true
    rotate_left
    ·replace c46 := Bool.eq_false_iff.mpr c46
     subst c46
     rw [if_neg (show ¬ (false = true) by decide)] at H
     (try dsimp only at H)
     obtain rfl := Option.some.inj H
     have hnb65 := NB296_286.out
     have hnc65 := NB286_296.out
     have hnb66 := NB296_295.out
     have hnc66 := NB295_296.out
     obtain ⟨hcz67_0, hfz67_0, hcz67_1, hfz67_1⟩ := bk2 BK296.out
     have hnb68 := NB286_295.out
     have hnc68 := NB295_286.out
     obtain ⟨hcz69_0, hfz69_0, hcz69_1, hfz69_1, hcz69_2, hfz69_2, hcz69_3, hfz69_3, hcz69_4, hfz69_4, hcz69_5, hfz69_5⟩ := bk6 BK286.out
     go_wp2_with (first | (go_at_call 62; (with_reducible refine (impl_in.calls a0_3 1 t293 false _ A45.out).mono ?_); rintro e w' ⟨rfl, ⟨nd, rfl⟩⟩))
     go_ret
     exact ⟨by first | rfl | (simp [errW_none, errW_some] <;> rfl) | (simp [*, errW_none, errW_some] <;> rfl), bS HB.out⟩
    subst c46
    rw [if_pos rfl] at H
    (try dsimp only at H)
    by_cases c47 : t294 = true
    rotate_left
    ·replace c47 := Bool.eq_false_iff.mpr c47
     subst c47
     rw [if_neg (show ¬ (false = true) by decide)] at H
     (try dsimp only at H)
     obtain rfl := Option.some.inj H
     have hnb60 := NB296_286.out
     have hnc60 := NB286_296.out
     have hnb61 := NB296_295.out
     have hnc61 := NB295_296.out
     obtain ⟨hcz62_0, hfz62_0, hcz62_1, hfz62_1⟩ := bk2 BK296.out
     have hnb63 := NB286_295.out
     have hnc63 := NB295_286.out
     obtain ⟨hcz64_0, hfz64_0, hcz64_1, hfz64_1, hcz64_2, hfz64_2, hcz64_3, hfz64_3, hcz64_4, hfz64_4, hcz64_5, hfz64_5⟩ := bk6 BK286.out
     go_wp2_with (first | (go_at_call 62; (with_reducible refine (impl_in.calls a0_3 1 t293 true _ A45.out).mono ?_); rintro e w' ⟨rfl, ⟨nd, rfl⟩⟩))
     go_ret
     exact ⟨by first | rfl | (simp [errW_none, errW_some] <;> rfl) | (simp [*, errW_none, errW_some] <;> rfl), bS HB.out⟩
    subst c47
    rw [if_pos rfl] at H
    (try dsimp only at H)
    replace H := Option.bind_eq_some_iff.mp H
    obtain ⟨t301, A480, H⟩ := H
    (try dsimp only at H)
    have A48 := aM A480
    clear A480
    by_cases c49 : t301 = true
    rotate_left
    ·replace c49 := Bool.eq_false_iff.mpr c49
     subst c49
     rw [if_neg (show ¬ (false = true) by decide)] at H
     (try dsimp only at H)
     obtain rfl := Option.some.inj H
     have hnb55 := NB296_286.out
     have hnc55 := NB286_296.out
     have hnb56 := NB296_295.out
     have hnc56 := NB295_296.out
     obtain ⟨hcz57_0, hfz57_0, hcz57_1, hfz57_1⟩ := bk2 BK296.out
     have hnb58 := NB286_295.out
     have hnc58 := NB295_286.out
     obtain ⟨hcz59_0, hfz59_0, hcz59_1, hfz59_1, hcz59_2, hfz59_2, hcz59_3, hfz59_3, hcz59_4, hfz59_4, hcz59_5, hfz59_5⟩ := bk6 BK286.out
     go_wp2_with (first | (go_at_call 62; (with_reducible refine (impl_in.calls a0_3 1 t293 true _ A45.out).mono ?_); rintro e w' ⟨rfl, ⟨nd, rfl⟩⟩) | (go_at_call 64; (with_reducible refine (impl_isWord.calls a0_2 false _ A48.out).mono ?_); rintro e w' ⟨rfl, ⟨nd, rfl⟩⟩))
     go_ret
     exact ⟨by first | rfl | (simp [errW_none, errW_some] <;> rfl) | (simp [*, errW_none, errW_some] <;> rfl), bS HB.out⟩
    subst c49
    rw [if_pos rfl] at H
    (try dsimp only at H)
    obtain rfl := Option.some.inj H
    have hnb50 := NB296_286.out
    have hnc50 := NB286_296.out
    have hnb51 := NB296_295.out
    have hnc51 := NB295_296.out
    obtain ⟨hcz52_0, hfz52_0, hcz52_1, hfz52_1⟩ := bk2 BK296.out
    have hnb53 := NB286_295.out
    have hnc53 := NB295_286.out
    obtain ⟨hcz54_0, hfz54_0, hcz54_1, hfz54_1, hcz54_2, hfz54_2, hcz54_3, hfz54_3, hcz54_4, hfz54_4, hcz54_5, hfz54_5⟩ := bk6 BK286.out
    go_wp2_with (first | (go_at_call 62; (with_reducible refine (impl_in.calls a0_3 1 t293 true _ A45.out).mono ?_); rintro e w' ⟨rfl, ⟨nd, rfl⟩⟩) | (go_at_call 64; (with_reducible refine (impl_isWord.calls a0_2 true _ A48.out).mono ?_); rintro e w' ⟨rfl, ⟨nd, rfl⟩⟩))
    go_ret
    exact ⟨by first | rfl | (simp [errW_none, errW_some] <;> rfl) | (simp [*, errW_none, errW_some] <;> rfl), bS HB.out⟩
end Go.Proofs.Ytfiplepbmennbaa.G
