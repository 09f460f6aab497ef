/- Contracts of functions, for more than one law: what they compute. -/
import Derived.Test.YtbdifcgkokajlaaM
import Derived.Test.YtbdifcgkokajlaaProg
import Derived.Test.YtbdifcgkokajlaaWMore
import Derived.Test.YtbdifcgkokajlaaWRepsOne
import Derived.Test.YtbdifcgkokajlaaWTab
import Derived.WalkSpells
import Derived.Test.YtbdifcgkokajlaaL
import Derived.Below
import Derived.Deep.Draws
import Derived.Deep.AppendLies
import Derived.Maps.AppendAt
import Derived.OwnWalk
import Derived.Laws.BytesArg
import Derived.Laws.MakeOwn
import Derived.Laws.OwnMore
import Derived.Deep.OwnRows
import Derived.Tactics
import Derived.Lib.ConvBytes
import Derived.Laws.Slices
import Derived.WalkKit
import Derived.KernelRfl
import Derived.RowKit3
import Derived.Deep.LoopGhost
import Derived.Deep.QuietTactic
import Derived.BigQuiet
import Derived.WideLaws
import Derived.Deep.DeepCutAuto
import Derived.Deep.CutBlock
import Derived.Deep.RegionHeld3
import Derived.Laws.Rows
import Derived.Lib.AppendStr
import Derived.ArgAppend
import Derived.Laws.IdiomCopy
import Derived.OrdersHeld
import Derived.Laws.BitsLemmas
import Derived.RowKit
import Derived.Test.YtbdifcgkokajlaaWWords
import Derived.Test.YtbdifcgkokajlaaWLast
import Derived.Test.YtbdifcgkokajlaaWApart
import Derived.Test.YtbdifcgkokajlaaWFoot
import Derived.Test.YtbdifcgkokajlaaWKept
import Derived.Test.YtbdifcgkokajlaaWShare
import Derived.Test.YtbdifcgkokajlaaWN
import Derived.Laws.StructEq
import Derived.Test.YtbdifcgkokajlaaWInv
import Derived.Test.YtbdifcgkokajlaaWGuard
import Derived.Test.YtbdifcgkokajlaaGSrvA
namespace Go.Proofs.Ytbdifcgkokajlaa.G
open Go.Proofs.Ytbdifcgkokajlaa.K Go Go.RowKit Go.Proofs.YtbdifcgkokajlaaW.PrintWords Go.Proofs.YtbdifcgkokajlaaW.PrintLast Go.Proofs.YtbdifcgkokajlaaW.PrintMore
attribute [local go_sem] max2_int min2_int max_two min_two max_three min_three max_four min_four   -- for this text's walks alone
set_option linter.unusedVariables false
set_option linter.unusedSimpArgs false

/-! ### impl_isFault: function 40 -/
def impl_isFault.f (a0_0 : Int) (a0_1 : Int) (a0_2 : Int) (a0_3 : Int) (l0_4 : List Int) (l0_5 : List Bool) : Option (Bool) := (impl_in.f a0_1 1 255).bind fun t158 => (if t158 = true then (if a0_2 = 0 then (if a0_3 = 0 then (if (l0_4.length : Int) = 0 then (some ((l0_5.length : Int) == 0)) else (some false)) else (some false)) else (some false)) else (some false))
set_option maxHeartbeats 8000000 in
set_option maxRecDepth 100000 in
theorem impl_isFault.calls (a0_0 : Int) (a0_1 : Int) (a0_2 : Int) (a0_3 : Int) (A0_4 : Option Addr) (c0_4 : Nat) (l0_4 : List Int) (A0_5 : Option Addr) (c0_5 : Nat) (l0_5 : List Bool) (r : Bool) (w : World) (hr0_4 : Kd.C (Kd.int .i64) w A0_4 l0_4.length l0_4) (hc0_4 : l0_4.length ≤ c0_4) (hr0_5 : Kd.C Kd.bool w A0_5 l0_5.length l0_5) (hc0_5 : l0_5.length ≤ c0_5) (h : impl_isFault.f a0_0 a0_1 a0_2 a0_3 l0_4 l0_5 = some r) :
  Calls Try.prog 40 #[.agg #[.int .i64 a0_0, .int .i64 a0_1, .int .i64 a0_2, .int .i64 a0_3, .slice A0_4 l0_4.length c0_4, .slice A0_5 l0_5.length c0_5]] w fun e w' => e = .returned (.bool r) ∧ Below w.heap.size w w' := by
 have hu28 := Try.underlying28
 have HR0_4 := aM hr0_4
 have HC0_4 := aM hc0_4
 clear hr0_4 hc0_4
 have HR0_5 := aM hr0_5
 have HC0_5 := aM hc0_5
 clear hr0_5 hc0_5
 have HB := aM (Below.refl w.heap.size w)
 have H : ((impl_in.f a0_1 1 255).bind fun t158 => (if t158 = true then (if a0_2 = 0 then (if a0_3 = 0 then (if (l0_4.length : Int) = 0 then (some ((l0_5.length : Int) == 0)) else (some false)) else (some false)) else (some false)) else (some false))) = some r := h
 clear h
 replace H := Option.bind_eq_some_iff.mp H
 obtain ⟨t158, A20, H⟩ := H
 (try dsimp only at H)
 have A2 := aM A20
 clear A20
 by_cases c3 : t158 = true
 rotate_left
 ·replace c3 := Bool.eq_false_iff.mpr c3
  subst c3
  rw [if_neg (show ¬ (false = true) by decide)] at H
  (try dsimp only at H)
  obtain rfl := Option.some.inj H
  go_enter Try.func40, Try.ntmps40
  go_wp2_with (first | ((with_reducible refine gate_dst (N := 1) rfl ?_); (try (refine gate_guard (by rfl) ?_; dsimp only)); refine box_event ?hg (N := 1) ?hd (cs := #[.int .i64 a0_0, .int .i64 a0_1, .int .i64 a0_2, .int .i64 a0_3, .slice A0_4 l0_4.length c0_4, .slice A0_5 l0_5.length c0_5]) (t := 28) ?hr ?_; (case hd => rfl); (case hg => rfl); (case hr => first | (go_simp; done) | (go_simp; rfl)); intro gb157 hg w15 hbox hb; have _ := aM (below_step (bS HB.out) hb); have _ := aM (hbox); have _ := aM (leG hg (bS HB.out)); have _ := aM (leG hg (bS HB.out)); clear HB; rename_i HB BK157 GW157 GE157; clear hb hbox hg; obtain ⟨hcz16_0, hfz16_0, hcz16_1, hfz16_1, hcz16_2, hfz16_2, hcz16_3, hfz16_3, hcz16_4, hfz16_4, hcz16_5, hfz16_5⟩ := bk6 BK157.out) | ((with_reducible refine gate_callee (f := 42) rfl ?_); refine gL (some 5) rfl rfl Try.func42 (by kernel_rfl) rfl #[.int .i64 a0_1, .int .i64 1, .int .i64 255] rfl ?_; (with_reducible refine (impl_in.calls a0_1 1 255 false _ A2.out).mono ?_); rintro e w' ⟨rfl, ⟨nd, rfl⟩⟩; refine ⟨_, rfl, ?_⟩))
  go_ret
  exact ⟨by first | rfl | (simp [errW_none, errW_some] <;> rfl) | (simp [*, errW_none, errW_some] <;> rfl), bS HB.out⟩
 subst c3
 rw [if_pos rfl] at H
 (try dsimp only at H)
 by_cases c4 : a0_2 = 0
 rotate_left
 ·rw [if_neg c4] at H
  have c4b0 : (a0_2 == 0) = false := beq_eq_false_iff_ne.mpr c4
  have c4b1 : (a0_2 != 0) = true := bne_iff_ne.mpr c4
  obtain rfl := Option.some.inj H
  go_enter Try.func40, Try.ntmps40
  go_wp2_with (first | ((with_reducible refine gate_dst (N := 1) rfl ?_); (try (refine gate_guard (by rfl) ?_; dsimp only)); refine box_event ?hg (N := 1) ?hd (cs := #[.int .i64 a0_0, .int .i64 a0_1, .int .i64 a0_2, .int .i64 a0_3, .slice A0_4 l0_4.length c0_4, .slice A0_5 l0_5.length c0_5]) (t := 28) ?hr ?_; (case hd => rfl); (case hg => rfl); (case hr => first | (go_simp; done) | (go_simp; rfl)); intro gb157 hg w13 hbox hb; have _ := aM (below_step (bS HB.out) hb); have _ := aM (hbox); have _ := aM (leG hg (bS HB.out)); have _ := aM (leG hg (bS HB.out)); clear HB; rename_i HB BK157 GW157 GE157; clear hb hbox hg; obtain ⟨hcz14_0, hfz14_0, hcz14_1, hfz14_1, hcz14_2, hfz14_2, hcz14_3, hfz14_3, hcz14_4, hfz14_4, hcz14_5, hfz14_5⟩ := bk6 BK157.out) | ((with_reducible refine gate_callee (f := 42) rfl ?_); refine gL (some 5) rfl rfl Try.func42 (by kernel_rfl) rfl #[.int .i64 a0_1, .int .i64 1, .int .i64 255] rfl ?_; (with_reducible refine (impl_in.calls a0_1 1 255 true _ A2.out).mono ?_); rintro e w' ⟨rfl, ⟨nd, rfl⟩⟩; refine ⟨_, rfl, ?_⟩))
  go_ret
  exact ⟨by first | rfl | (simp [errW_none, errW_some] <;> rfl) | (simp [*, errW_none, errW_some] <;> rfl), bS HB.out⟩
 rw [if_pos c4] at H
 have c4b0 : (a0_2 == 0) = true := beq_iff_eq.mpr c4
 have c4b1 : (a0_2 != 0) = false := bne_eq_false_iff_eq.mpr c4
 clear c4
 by_cases c5 : a0_3 = 0
 rotate_left
 ·rw [if_neg c5] at H
  have c5b0 : (a0_3 == 0) = false := beq_eq_false_iff_ne.mpr c5
  have c5b1 : (a0_3 != 0) = true := bne_iff_ne.mpr c5
  obtain rfl := Option.some.inj H
  go_enter Try.func40, Try.ntmps40
  go_wp2_with (first | ((with_reducible refine gate_dst (N := 1) rfl ?_); (try (refine gate_guard (by rfl) ?_; dsimp only)); refine box_event ?hg (N := 1) ?hd (cs := #[.int .i64 a0_0, .int .i64 a0_1, .int .i64 a0_2, .int .i64 a0_3, .slice A0_4 l0_4.length c0_4, .slice A0_5 l0_5.length c0_5]) (t := 28) ?hr ?_; (case hd => rfl); (case hg => rfl); (case hr => first | (go_simp; done) | (go_simp; rfl)); intro gb157 hg w11 hbox hb; have _ := aM (below_step (bS HB.out) hb); have _ := aM (hbox); have _ := aM (leG hg (bS HB.out)); have _ := aM (leG hg (bS HB.out)); clear HB; rename_i HB BK157 GW157 GE157; clear hb hbox hg; obtain ⟨hcz12_0, hfz12_0, hcz12_1, hfz12_1, hcz12_2, hfz12_2, hcz12_3, hfz12_3, hcz12_4, hfz12_4, hcz12_5, hfz12_5⟩ := bk6 BK157.out) | ((with_reducible refine gate_callee (f := 42) rfl ?_); refine gL (some 5) rfl rfl Try.func42 (by kernel_rfl) rfl #[.int .i64 a0_1, .int .i64 1, .int .i64 255] rfl ?_; (with_reducible refine (impl_in.calls a0_1 1 255 true _ A2.out).mono ?_); rintro e w' ⟨rfl, ⟨nd, rfl⟩⟩; refine ⟨_, rfl, ?_⟩))
  go_ret
  exact ⟨by first | rfl | (simp [errW_none, errW_some] <;> rfl) | (simp [*, errW_none, errW_some] <;> rfl), bS HB.out⟩
 rw [if_pos c5] at H
 have c5b0 : (a0_3 == 0) = true := beq_iff_eq.mpr c5
 have c5b1 : (a0_3 != 0) = false := bne_eq_false_iff_eq.mpr c5
 clear c5
 by_cases c6 : (l0_4.length : Int) = 0
 rotate_left
 ·rw [if_neg c6] at H
  have c6b0 : ((l0_4.length : Int) == 0) = false := beq_eq_false_iff_ne.mpr c6
  have c6b1 : ((l0_4.length : Int) != 0) = true := bne_iff_ne.mpr c6
  have c6b2 : ¬ (l0_4 = []) := fun h_ => c6 (by rw [h_]; rfl)
  obtain rfl := Option.some.inj H
  go_enter Try.func40, Try.ntmps40
  go_wp2_with (first | ((with_reducible refine gate_dst (N := 1) rfl ?_); (try (refine gate_guard (by rfl) ?_; dsimp only)); refine box_event ?hg (N := 1) ?hd (cs := #[.int .i64 a0_0, .int .i64 a0_1, .int .i64 a0_2, .int .i64 a0_3, .slice A0_4 l0_4.length c0_4, .slice A0_5 l0_5.length c0_5]) (t := 28) ?hr ?_; (case hd => rfl); (case hg => rfl); (case hr => first | (go_simp; done) | (go_simp; rfl)); intro gb157 hg w9 hbox hb; have _ := aM (below_step (bS HB.out) hb); have _ := aM (hbox); have _ := aM (leG hg (bS HB.out)); have _ := aM (leG hg (bS HB.out)); clear HB; rename_i HB BK157 GW157 GE157; clear hb hbox hg; obtain ⟨hcz10_0, hfz10_0, hcz10_1, hfz10_1, hcz10_2, hfz10_2, hcz10_3, hfz10_3, hcz10_4, hfz10_4, hcz10_5, hfz10_5⟩ := bk6 BK157.out) | ((with_reducible refine gate_callee (f := 42) rfl ?_); refine gL (some 5) rfl rfl Try.func42 (by kernel_rfl) rfl #[.int .i64 a0_1, .int .i64 1, .int .i64 255] rfl ?_; (with_reducible refine (impl_in.calls a0_1 1 255 true _ A2.out).mono ?_); rintro e w' ⟨rfl, ⟨nd, rfl⟩⟩; refine ⟨_, rfl, ?_⟩))
  go_ret
  exact ⟨by first | rfl | (simp [errW_none, errW_some] <;> rfl) | (simp [*, errW_none, errW_some] <;> rfl), bS HB.out⟩
 rw [if_pos c6] at H
 have c6b0 : ((l0_4.length : Int) == 0) = true := beq_iff_eq.mpr c6
 have c6b1 : ((l0_4.length : Int) != 0) = false := bne_eq_false_iff_eq.mpr c6
 clear c6
 obtain rfl := Option.some.inj H
 go_enter Try.func40, Try.ntmps40
 go_wp2_with (first | ((with_reducible refine gate_dst (N := 1) rfl ?_); (try (refine gate_guard (by rfl) ?_; dsimp only)); refine box_event ?hg (N := 1) ?hd (cs := #[.int .i64 a0_0, .int .i64 a0_1, .int .i64 a0_2, .int .i64 a0_3, .slice A0_4 l0_4.length c0_4, .slice A0_5 l0_5.length c0_5]) (t := 28) ?hr ?_; (case hd => rfl); (case hg => rfl); (case hr => first | (go_simp; done) | (go_simp; rfl)); intro gb157 hg w7 hbox hb; have _ := aM (below_step (bS HB.out) hb); have _ := aM (hbox); have _ := aM (leG hg (bS HB.out)); have _ := aM (leG hg (bS HB.out)); clear HB; rename_i HB BK157 GW157 GE157; clear hb hbox hg; obtain ⟨hcz8_0, hfz8_0, hcz8_1, hfz8_1, hcz8_2, hfz8_2, hcz8_3, hfz8_3, hcz8_4, hfz8_4, hcz8_5, hfz8_5⟩ := bk6 BK157.out) | ((with_reducible refine gate_callee (f := 42) rfl ?_); refine gL (some 5) rfl rfl Try.func42 (by kernel_rfl) rfl #[.int .i64 a0_1, .int .i64 1, .int .i64 255] rfl ?_; (with_reducible refine (impl_in.calls a0_1 1 255 true _ A2.out).mono ?_); rintro e w' ⟨rfl, ⟨nd, rfl⟩⟩; refine ⟨_, rfl, ?_⟩))
 go_ret
 exact ⟨by first | rfl | (simp [errW_none, errW_some] <;> rfl) | (simp [*, errW_none, errW_some] <;> rfl), bS HB.out⟩
/-! ### impl_shape: function 41 -/
mutual
def impl_shape.j0 : Nat → Int → Bool → Option (Int × Int × Int × Int × Int × Bool)
 | 0, _, _ => none
 | k + 1, x6, x7 => if x7 = true then (some (0, 0, 1, 2000, 0, false)) else (if x6 = 3 then (impl_shape.j1 k x6 (x6 == 3)) else (if x6 = 4 then (impl_shape.j1 k x6 (x6 == 4)) else (impl_shape.j1 k x6 (x6 == 23))))
def impl_shape.j1 : Nat → Int → Bool → Option (Int × Int × Int × Int × Int × Bool)
 | 0, _, _ => none
 | k + 1, x6, x12 => if x12 = true then (some (1, 125, 0, 0, 0, false)) else (if x6 = 5 then (some (0, 0, 1, 1, 0, true)) else (if x6 = 6 then (some (1, 1, 0, 0, 0, true)) else (if x6 = 15 then (some (0, 0, 0, 0, 1968, true)) else (if x6 = 16 then (some (0, 0, 0, 0, 123, true)) else (some (2, 2, 0, 0, 0, true))))))
end
def impl_shape.f (k : Nat) (a0 : Int) : Option (Int × Int × Int × Int × Int × Bool) := if a0 = 1 then (impl_shape.j0 k a0 (a0 == 1)) else (impl_shape.j0 k a0 (a0 == 2))
theorem impl_shape.mono_l : ∀ k, (∀ y0 y1, LeO (impl_shape.j0 k y0 y1) (impl_shape.j0 (k + 1) y0 y1)) ∧ (∀ y0 y1, LeO (impl_shape.j1 k y0 y1) (impl_shape.j1 (k + 1) y0 y1))
 | 0 => ⟨fun _ _ r h => by simp [impl_shape.j0] at h, fun _ _ r h => by simp [impl_shape.j1] at h⟩
 | k + 1 => by
  obtain ⟨ih0, ih1⟩ := impl_shape.mono_l k
  refine ⟨?_, ?_⟩
  ·intro y0 y1
   unfold impl_shape.j0
   repeat' first
   | (with_reducible exact ih0 _ _)
   | (with_reducible exact ih1 _ _)
   | (with_reducible exact LeO.refl _)
   | (with_reducible exact LeO.none _)
   | (with_reducible refine LeO.ite ?_ ?_)
   | (with_reducible refine LeO.bind ?_ (fun _ => ?_))
   | exact ih0 _ _
   | exact ih1 _ _
   | exact LeO.none _
   | refine LeO.ite ?_ ?_
   | refine LeO.bind ?_ (fun _ => ?_)
  ·intro y0 y1
   unfold impl_shape.j1
   repeat' first
   | (with_reducible exact ih0 _ _)
   | (with_reducible exact ih1 _ _)
   | (with_reducible exact LeO.refl _)
   | (with_reducible exact LeO.none _)
   | (with_reducible refine LeO.ite ?_ ?_)
   | (with_reducible refine LeO.bind ?_ (fun _ => ?_))
   | exact ih0 _ _
   | exact ih1 _ _
   | exact LeO.none _
   | refine LeO.ite ?_ ?_
   | refine LeO.bind ?_ (fun _ => ?_)
theorem impl_shape.mono : ∀ a0 k, LeO (impl_shape.f k a0) (impl_shape.f (k + 1) a0) := by
 intro a0 k
 obtain ⟨ih0, ih1⟩ := impl_shape.mono_l k
 unfold impl_shape.f
 repeat' first
   | (with_reducible exact ih0 _ _)
   | (with_reducible exact ih1 _ _)
   | (with_reducible exact LeO.refl _)
   | (with_reducible exact LeO.none _)
   | (with_reducible refine LeO.ite ?_ ?_)
   | (with_reducible refine LeO.bind ?_ (fun _ => ?_))
   | exact ih0 _ _
   | exact ih1 _ _
   | exact LeO.none _
   | refine LeO.ite ?_ ?_
   | refine LeO.bind ?_ (fun _ => ?_)
set_option maxHeartbeats 8000000 in
set_option maxRecDepth 100000 in
theorem impl_shape.calls (k : Nat) (a0 : Int) (r1 : Int) (r2 : Int) (r3 : Int) (r4 : Int) (r5 : Int) (r6 : Bool) (w : World) (h : impl_shape.f k a0 = some (r1, r2, r3, r4, r5, r6)) :
  Calls Try.prog 41 #[.int .i64 a0] w fun e w' => e = .returned (.tuple #[.agg #[.int .i64 r1, .int .i64 r2], .agg #[.int .i64 r3, .int .i64 r4], .int .i64 r5, .bool r6]) ∧ Below w.heap.size w w' := by
 have hu65 := Try.underlying65
 have HB := aM (Below.refl w.heap.size w)
 have H : (if a0 = 1 then (impl_shape.j0 k a0 (a0 == 1)) else (impl_shape.j0 k a0 (a0 == 2))) = some (r1, r2, r3, r4, r5, r6) := h
 clear h
 have HC2 := aM H
 clear H
 go_enter Try.func41, Try.ntmps41
 go_upto_if 7 with (first | ((with_reducible refine gate_dst (N := 2) rfl ?_); refine box_event ?hg (N := 2) ?hd (cs := #[.int .i64 0, .int .i64 0]) (t := 65) ?hr ?_; (case hd => rfl); (case hg => rfl); (case hr => first | (go_simp; done) | (go_simp; rfl)); intro gb159 hg w3 hbox hb; have _ := aM (below_step (bS HB.out) hb); have _ := aM (hbox); have _ := aM (leG hg (bS HB.out)); have _ := aM (leG hg (bS HB.out)); clear HB; rename_i HB BK159 GW159 GE159; clear hb hbox hg) | ((with_reducible refine gate_dst (N := 3) rfl ?_); refine box_event ?hg (N := 3) ?hd (cs := #[.int .i64 0, .int .i64 0]) (t := 65) ?hr ?_; (case hd => rfl); (case hg => rfl); (case hr => first | (go_simp; done) | (go_simp; rfl)); intro gb160 hg w4 hbox hb; have _ := aM (kB BK159.out hb); have _ := aM (below_step (bS HB.out) hb); have _ := aM (hbox); have _ := aM (leG hg (bS HB.out)); have _ := aM (leG hg (bS HB.out)); have _ := aM (neL hg (kA BK159.out)); have _ := aM (neG hg (kA BK159.out)); clear BK159 HB; rename_i BK159 HB BK160 GW160 GE160 NB159_160 NB160_159; clear hb hbox hg))
 (try simp only [Act.put, List.setIfInBounds_toArray, List.set_cons_zero, List.set_cons_succ])
 go_cut [7] (fun v7 wc => ∃ (kq : Nat) (x7_1 : Bool), v7 = .bool x7_1 ∧ Aside0 (impl_shape.j0 kq a0 x7_1 = some (r1, r2, r3, r4, r5, r6)) ∧ Aside0 (kq ≤ k) ∧ Aside0 (wc.heap[gb159]? = some (.cells #[.int .i64 0, .int .i64 0] 65 (0, 0))) ∧ Aside0 (wc.heap[gb160]? = some (.cells #[.int .i64 0, .int .i64 0] 65 (0, 0))) ∧ Aside0 (Below w.heap.size w wc))
 case first =>
  have H := HC2.out
  clear HC2
  by_cases c5 : a0 = 1
  rotate_left
  ·rw [if_neg c5] at H
   have c5b0 : (a0 == 1) = false := beq_eq_false_iff_ne.mpr c5
   have c5b1 : (a0 != 1) = true := bne_iff_ne.mpr c5
   (first | rw [c5b0] | (simp only [i64_w, i32_w]; rw [c5b0]) | skip)
   have H' := aM H
   clear H
   go_wp2
   go_meet
   case rel => exact ⟨_, ((a0 == 2)), (by first | rfl | (simp; done) | (simp [*]; done)), H', ⟨by first | omega | exact Nat.le_refl _⟩, ⟨kX BK159.out⟩, ⟨kX BK160.out⟩, ⟨bS HB.out⟩⟩
  rw [if_pos c5] at H
  have c5b0 : (a0 == 1) = true := beq_iff_eq.mpr c5
  have c5b1 : (a0 != 1) = false := bne_eq_false_iff_eq.mpr c5
  clear c5
  (first | rw [c5b0] | (simp only [i64_w, i32_w]; rw [c5b0]) | skip)
  have H' := aM H
  clear H
  go_wp2
  go_meet
  case rel => exact ⟨_, ((a0 == 1)), (by first | rfl | (simp; done) | (simp [*]; done)), H', ⟨by first | omega | exact Nat.le_refl _⟩, ⟨kX BK159.out⟩, ⟨kX BK160.out⟩, ⟨bS HB.out⟩⟩
 case rest =>
  clear HC2
  obtain ⟨kq, x7_1, rfl, HA, HJ1, BK159, BK160, HB⟩ := hcut
  cases kq with
  | zero => exact absurd HA.out (by simp [impl_shape.j0])
  | succ kj1 =>
   have H := HA.out
   clear HA
   simp only [impl_shape.j0] at H
   by_cases c6 : x7_1 = true
   ·subst c6
    rw [if_pos rfl] at H
    (try dsimp only at H)
    simp only [Option.some.injEq, Prod.mk.injEq] at H
    obtain ⟨rfl, rfl, rfl, rfl, rfl, rfl⟩ := H
    have hnb7 := NB159_160.out
    have hnc7 := NB160_159.out
    obtain ⟨hcz8_0, hfz8_0, hcz8_1, hfz8_1⟩ := bk2 BK159.out
    obtain ⟨hcz9_0, hfz9_0, hcz9_1, hfz9_1⟩ := bk2 BK160.out
    go_wp2
    refine bodyPost_ret (results_list (rs := [.cell 2 65, .cell 3 65, .tmp 4, .tmp 5]) rfl (by simp) (.cell gb159 65 #[.int .i64 0, .int .i64 0] (0, 0) _ rfl (kX BK159.out) Try.underlying65 rfl (by kernel_rfl) (.cell gb160 65 #[.int .i64 1, .int .i64 2000] (0, 0) _ rfl (kX BK160.out) Try.underlying65 rfl (by kernel_rfl) (.tmp (.tmp .nil))))) rfl ?_
    exact ⟨by first | rfl | (simp [errW_none, errW_some] <;> rfl) | (simp [*, errW_none, errW_some] <;> rfl), bS HB.out⟩
   ·replace c6 := Bool.eq_false_iff.mpr c6
    subst c6
    rw [if_neg (show ¬ (false = true) by decide)] at H
    (try dsimp only at H)
    have HC10 := aM H
    clear H
    go_upto_if 12 with (fail)
    go_cut [12] (fun v12 wc => ∃ (kq : Nat) (x12_9 : Bool), v12 = .bool x12_9 ∧ Aside0 (impl_shape.j1 kq a0 x12_9 = some (r1, r2, r3, r4, r5, r6)) ∧ Aside0 (kq ≤ kj1) ∧ Aside0 (wc.heap[gb159]? = some (.cells #[.int .i64 0, .int .i64 0] 65 (0, 0))) ∧ Aside0 (wc.heap[gb160]? = some (.cells #[.int .i64 0, .int .i64 0] 65 (0, 0))) ∧ Aside0 (Below w.heap.size w wc))
    case first =>
     have H := HC10.out
     clear HC10
     by_cases c11 : a0 = 3
     ·rw [if_pos c11] at H
      have c11b0 : (a0 == 3) = true := beq_iff_eq.mpr c11
      have c11b1 : (a0 != 3) = false := bne_eq_false_iff_eq.mpr c11
      clear c11
      (first | rw [c11b0] | (simp only [i64_w, i32_w]; rw [c11b0]) | skip)
      have H' := aM H
      clear H
      go_wp2
      go_meet
      case rel => exact ⟨_, ((a0 == 3)), (by first | rfl | (simp; done) | (simp [*]; done)), H', ⟨by have := HJ1.out; first | omega | exact Nat.le_refl _⟩, ⟨kX BK159.out⟩, ⟨kX BK160.out⟩, ⟨bS HB.out⟩⟩
     ·rw [if_neg c11] at H
      have c11b0 : (a0 == 3) = false := beq_eq_false_iff_ne.mpr c11
      have c11b1 : (a0 != 3) = true := bne_iff_ne.mpr c11
      (first | rw [c11b0] | (simp only [i64_w, i32_w]; rw [c11b0]) | skip)
      by_cases c12 : a0 = 4
      rotate_left
      ·rw [if_neg c12] at H
       have c12b0 : (a0 == 4) = false := beq_eq_false_iff_ne.mpr c12
       have c12b1 : (a0 != 4) = true := bne_iff_ne.mpr c12
       have H' := aM H
       clear H
       go_wp2
       go_meet
       case rel => exact ⟨_, ((a0 == 23)), (by first | rfl | (simp; done) | (simp [*]; done)), H', ⟨by have := HJ1.out; first | omega | exact Nat.le_refl _⟩, ⟨kX BK159.out⟩, ⟨kX BK160.out⟩, ⟨bS HB.out⟩⟩
      rw [if_pos c12] at H
      have c12b0 : (a0 == 4) = true := beq_iff_eq.mpr c12
      have c12b1 : (a0 != 4) = false := bne_eq_false_iff_eq.mpr c12
      clear c12
      have H' := aM H
      clear H
      go_wp2
      go_meet
      case rel => exact ⟨_, ((a0 == 4)), (by first | rfl | (simp; done) | (simp [*]; done)), H', ⟨by have := HJ1.out; first | omega | exact Nat.le_refl _⟩, ⟨kX BK159.out⟩, ⟨kX BK160.out⟩, ⟨bS HB.out⟩⟩
    case rest =>
     clear HC10
     try clear p2
     try clear c4
     try clear c5
     try clear c5b0
     try clear c5b1
     try clear c6
     try clear hcz8_0
     try clear hcz8_1
     try clear hcz9_0
     try clear hcz9_1
     try clear hfz8_0
     try clear hfz8_1
     try clear hfz9_0
     try clear hfz9_1
     try clear p2
     obtain ⟨kq, x12_9, rfl, HA, HJ9, BK159, BK160, HB⟩ := hcut
     cases kq with
     | zero => exact absurd HA.out (by simp [impl_shape.j1])
     | succ kj9 =>
      have H := HA.out
      clear HA
      simp only [impl_shape.j1] at H
      by_cases c13 : x12_9 = true
      ·subst c13
       rw [if_pos rfl] at H
       (try dsimp only at H)
       simp only [Option.some.injEq, Prod.mk.injEq] at H
       obtain ⟨rfl, rfl, rfl, rfl, rfl, rfl⟩ := H
       have hnb14 := NB159_160.out
       have hnc14 := NB160_159.out
       obtain ⟨hcz15_0, hfz15_0, hcz15_1, hfz15_1⟩ := bk2 BK159.out
       obtain ⟨hcz16_0, hfz16_0, hcz16_1, hfz16_1⟩ := bk2 BK160.out
       go_wp2
       refine bodyPost_ret (results_list (rs := [.cell 2 65, .cell 3 65, .tmp 4, .tmp 5]) rfl (by simp) (.cell gb159 65 #[.int .i64 1, .int .i64 125] (0, 0) _ rfl (kX BK159.out) Try.underlying65 rfl (by kernel_rfl) (.cell gb160 65 #[.int .i64 0, .int .i64 0] (0, 0) _ rfl (kX BK160.out) Try.underlying65 rfl (by kernel_rfl) (.tmp (.tmp .nil))))) rfl ?_
       exact ⟨by first | rfl | (simp [errW_none, errW_some] <;> rfl) | (simp [*, errW_none, errW_some] <;> rfl), bS HB.out⟩
      ·replace c13 := Bool.eq_false_iff.mpr c13
       subst c13
       rw [if_neg (show ¬ (false = true) by decide)] at H
       (try dsimp only at H)
       by_cases c17 : a0 = 5
       ·rw [if_pos c17] at H
        have c17b0 : (a0 == 5) = true := beq_iff_eq.mpr c17
        have c17b1 : (a0 != 5) = false := bne_eq_false_iff_eq.mpr c17
        clear c17
        simp only [Option.some.injEq, Prod.mk.injEq] at H
        obtain ⟨rfl, rfl, rfl, rfl, rfl, rfl⟩ := H
        have hnb18 := NB159_160.out
        have hnc18 := NB160_159.out
        obtain ⟨hcz19_0, hfz19_0, hcz19_1, hfz19_1⟩ := bk2 BK159.out
        obtain ⟨hcz20_0, hfz20_0, hcz20_1, hfz20_1⟩ := bk2 BK160.out
        go_wp2
        refine bodyPost_ret (results_list (rs := [.cell 2 65, .cell 3 65, .tmp 4, .tmp 5]) rfl (by simp) (.cell gb159 65 #[.int .i64 0, .int .i64 0] (0, 0) _ rfl (kX BK159.out) Try.underlying65 rfl (by kernel_rfl) (.cell gb160 65 #[.int .i64 1, .int .i64 1] (0, 0) _ rfl (kX BK160.out) Try.underlying65 rfl (by kernel_rfl) (.tmp (.tmp .nil))))) rfl ?_
        exact ⟨by first | rfl | (simp [errW_none, errW_some] <;> rfl) | (simp [*, errW_none, errW_some] <;> rfl), bS HB.out⟩
       ·rw [if_neg c17] at H
        have c17b0 : (a0 == 5) = false := beq_eq_false_iff_ne.mpr c17
        have c17b1 : (a0 != 5) = true := bne_iff_ne.mpr c17
        by_cases c21 : a0 = 6
        ·rw [if_pos c21] at H
         have c21b0 : (a0 == 6) = true := beq_iff_eq.mpr c21
         have c21b1 : (a0 != 6) = false := bne_eq_false_iff_eq.mpr c21
         clear c21
         simp only [Option.some.injEq, Prod.mk.injEq] at H
         obtain ⟨rfl, rfl, rfl, rfl, rfl, rfl⟩ := H
         have hnb22 := NB159_160.out
         have hnc22 := NB160_159.out
         obtain ⟨hcz23_0, hfz23_0, hcz23_1, hfz23_1⟩ := bk2 BK159.out
         obtain ⟨hcz24_0, hfz24_0, hcz24_1, hfz24_1⟩ := bk2 BK160.out
         go_wp2
         refine bodyPost_ret (results_list (rs := [.cell 2 65, .cell 3 65, .tmp 4, .tmp 5]) rfl (by simp) (.cell gb159 65 #[.int .i64 1, .int .i64 1] (0, 0) _ rfl (kX BK159.out) Try.underlying65 rfl (by kernel_rfl) (.cell gb160 65 #[.int .i64 0, .int .i64 0] (0, 0) _ rfl (kX BK160.out) Try.underlying65 rfl (by kernel_rfl) (.tmp (.tmp .nil))))) rfl ?_
         exact ⟨by first | rfl | (simp [errW_none, errW_some] <;> rfl) | (simp [*, errW_none, errW_some] <;> rfl), bS HB.out⟩
        ·rw [if_neg c21] at H
         have c21b0 : (a0 == 6) = false := beq_eq_false_iff_ne.mpr c21
         have c21b1 : (a0 != 6) = true := bne_iff_ne.mpr c21
         by_cases c25 : a0 = 15
         ·rw [if_pos c25] at H
          have c25b0 : (a0 == 15) = true := beq_iff_eq.mpr c25
          have c25b1 : (a0 != 15) = false := bne_eq_false_iff_eq.mpr c25
          clear c25
          simp only [Option.some.injEq, Prod.mk.injEq] at H
          obtain ⟨rfl, rfl, rfl, rfl, rfl, rfl⟩ := H
          have hnb26 := NB159_160.out
          have hnc26 := NB160_159.out
          obtain ⟨hcz27_0, hfz27_0, hcz27_1, hfz27_1⟩ := bk2 BK159.out
          obtain ⟨hcz28_0, hfz28_0, hcz28_1, hfz28_1⟩ := bk2 BK160.out
          go_wp2
          refine bodyPost_ret (results_list (rs := [.cell 2 65, .cell 3 65, .tmp 4, .tmp 5]) rfl (by simp) (.cell gb159 65 #[.int .i64 0, .int .i64 0] (0, 0) _ rfl (kX BK159.out) Try.underlying65 rfl (by kernel_rfl) (.cell gb160 65 #[.int .i64 0, .int .i64 0] (0, 0) _ rfl (kX BK160.out) Try.underlying65 rfl (by kernel_rfl) (.tmp (.tmp .nil))))) rfl ?_
          exact ⟨by first | rfl | (simp [errW_none, errW_some] <;> rfl) | (simp [*, errW_none, errW_some] <;> rfl), bS HB.out⟩
         ·rw [if_neg c25] at H
          have c25b0 : (a0 == 15) = false := beq_eq_false_iff_ne.mpr c25
          have c25b1 : (a0 != 15) = true := bne_iff_ne.mpr c25
          by_cases c29 : a0 = 16
          rotate_left
          ·rw [if_neg c29] at H
           have c29b0 : (a0 == 16) = false := beq_eq_false_iff_ne.mpr c29
           have c29b1 : (a0 != 16) = true := bne_iff_ne.mpr c29
           simp only [Option.some.injEq, Prod.mk.injEq] at H
           obtain ⟨rfl, rfl, rfl, rfl, rfl, rfl⟩ := H
           have hnb33 := NB159_160.out
           have hnc33 := NB160_159.out
           obtain ⟨hcz34_0, hfz34_0, hcz34_1, hfz34_1⟩ := bk2 BK159.out
           obtain ⟨hcz35_0, hfz35_0, hcz35_1, hfz35_1⟩ := bk2 BK160.out
           go_wp2
           refine bodyPost_ret (results_list (rs := [.cell 2 65, .cell 3 65, .tmp 4, .tmp 5]) rfl (by simp) (.cell gb159 65 #[.int .i64 2, .int .i64 2] (0, 0) _ rfl (kX BK159.out) Try.underlying65 rfl (by kernel_rfl) (.cell gb160 65 #[.int .i64 0, .int .i64 0] (0, 0) _ rfl (kX BK160.out) Try.underlying65 rfl (by kernel_rfl) (.tmp (.tmp .nil))))) rfl ?_
           exact ⟨by first | rfl | (simp [errW_none, errW_some] <;> rfl) | (simp [*, errW_none, errW_some] <;> rfl), bS HB.out⟩
          rw [if_pos c29] at H
          have c29b0 : (a0 == 16) = true := beq_iff_eq.mpr c29
          have c29b1 : (a0 != 16) = false := bne_eq_false_iff_eq.mpr c29
          clear c29
          simp only [Option.some.injEq, Prod.mk.injEq] at H
          obtain ⟨rfl, rfl, rfl, rfl, rfl, rfl⟩ := H
          have hnb30 := NB159_160.out
          have hnc30 := NB160_159.out
          obtain ⟨hcz31_0, hfz31_0, hcz31_1, hfz31_1⟩ := bk2 BK159.out
          obtain ⟨hcz32_0, hfz32_0, hcz32_1, hfz32_1⟩ := bk2 BK160.out
          go_wp2
          refine bodyPost_ret (results_list (rs := [.cell 2 65, .cell 3 65, .tmp 4, .tmp 5]) rfl (by simp) (.cell gb159 65 #[.int .i64 0, .int .i64 0] (0, 0) _ rfl (kX BK159.out) Try.underlying65 rfl (by kernel_rfl) (.cell gb160 65 #[.int .i64 0, .int .i64 0] (0, 0) _ rfl (kX BK160.out) Try.underlying65 rfl (by kernel_rfl) (.tmp (.tmp .nil))))) rfl ?_
          exact ⟨by first | rfl | (simp [errW_none, errW_some] <;> rfl) | (simp [*, errW_none, errW_some] <;> rfl), bS HB.out⟩
/-! ### impl_RespOk: function 11 -/
def impl_RespOk.j0 : Nat → Int → Bool → Bool → Int → Int → Int → Int → List Int → List Bool → Int → Int → Option (Bool)
 | 0, _, _, _, _, _, _, _, _, _, _, _ => none
 | k + 1, x5, x6, x49, x162000, x162001, x162002, x162003, x162004, x162005, x172000, x172001 => if x49 = true then (some false) else (if x172001 > 1 then (if ((x162005.length : Int) % 8) = 0 then (if x5 = 0 then (if x162003 = 0 then (if x5 > 0 then ((impl_in.f x162003 1 x5).bind fun t175 => (if t175 = true then (if x6 = true then ((impl_isWord.f x162002).bind fun t176 => (if t176 = true then (some true) else (some (x162002 == 0)))) else (some (x162002 == 0))) else (some false))) else (if x6 = true then ((impl_isWord.f x162002).bind fun t177 => (if t177 = true then (some true) else (some (x162002 == 0)))) else (some (x162002 == 0)))) else (some false)) else (if x5 > 0 then ((impl_in.f x162003 1 x5).bind fun t178 => (if t178 = true then (if x6 = true then ((impl_isWord.f x162002).bind fun t179 => (if t179 = true then (some true) else (some (x162002 == 0)))) else (some (x162002 == 0))) else (some false))) else (if x6 = true then ((impl_isWord.f x162002).bind fun t180 => (if t180 = true then (some true) else (some (x162002 == 0)))) else (some (x162002 == 0))))) else (some false)) else (if x5 = 0 then (if x162003 = 0 then (if x5 > 0 then ((impl_in.f x162003 1 x5).bind fun t181 => (if t181 = true then (if x6 = true then ((impl_isWord.f x162002).bind fun t182 => (if t182 = true then (some true) else (some (x162002 == 0)))) else (some (x162002 == 0))) else (some false))) else (if x6 = true then ((impl_isWord.f x162002).bind fun t183 => (if t183 = true then (some true) else (some (x162002 == 0)))) else (some (x162002 == 0)))) else (some false)) else (if x5 > 0 then ((impl_in.f x162003 1 x5).bind fun t184 => (if t184 = true then (if x6 = true then ((impl_isWord.f x162002).bind fun t185 => (if t185 = true then (some true) else (some (x162002 == 0)))) else (some (x162002 == 0))) else (some false))) else (if x6 = true then ((impl_isWord.f x162002).bind fun t186 => (if t186 = true then (some true) else (some (x162002 == 0)))) else (some (x162002 == 0))))))
def impl_RespOk.f (k : Nat) (a0_0 : Int) (a0_1 : Int) (a0_2 : Int) (a0_3 : Int) (l0_4 : List Int) (l0_5 : List Bool) : Option (Bool) := (impl_isKind.f a0_0).bind fun t162 => (if t162 = true then (if a0_1 = 0 then ((impl_shape.f k a0_0).bind fun bt164 => ((impl_in.f (l0_4.length : Int) bt164.1 bt164.2.1).bind fun t172 => (if t172 = true then ((impl_in.f (l0_5.length : Int) bt164.2.2.1 bt164.2.2.2.1).bind fun t173 => (if t173 = true then ((impl_allWords.f l0_4).bind fun t174 => (impl_RespOk.j0 k bt164.2.2.2.2.1 bt164.2.2.2.2.2 (!t174) a0_0 a0_1 a0_2 a0_3 l0_4 l0_5 bt164.2.2.1 bt164.2.2.2.1)) else (impl_RespOk.j0 k bt164.2.2.2.2.1 bt164.2.2.2.2.2 true a0_0 a0_1 a0_2 a0_3 l0_4 l0_5 bt164.2.2.1 bt164.2.2.2.1))) else (impl_RespOk.j0 k bt164.2.2.2.2.1 bt164.2.2.2.2.2 true a0_0 a0_1 a0_2 a0_3 l0_4 l0_5 bt164.2.2.1 bt164.2.2.2.1)))) else ((impl_isFault.f a0_0 a0_1 a0_2 a0_3 l0_4 l0_5).bind fun t163 => (some t163))) else (some false))
theorem impl_RespOk.mono_l : ∀ k, (∀ y0 y1 y2 y3 y4 y5 y6 y7 y8 y9 y10, LeO (impl_RespOk.j0 k y0 y1 y2 y3 y4 y5 y6 y7 y8 y9 y10) (impl_RespOk.j0 (k + 1) y0 y1 y2 y3 y4 y5 y6 y7 y8 y9 y10))
 | 0 => fun _ _ _ _ _ _ _ _ _ _ _ r h => by simp [impl_RespOk.j0] at h
 | k + 1 => by
  have ih0 := impl_RespOk.mono_l k
  ·intro y0 y1 y2 y3 y4 y5 y6 y7 y8 y9 y10
   unfold impl_RespOk.j0
   repeat' first
   | (with_reducible exact ih0 _ _ _ _ _ _ _ _ _ _ _)
   | (with_reducible exact impl_shape.mono _ _)
   | (with_reducible exact LeO.refl _)
   | (with_reducible exact LeO.none _)
   | (with_reducible refine LeO.ite ?_ ?_)
   | (with_reducible refine LeO.bind ?_ (fun _ => ?_))
   | exact ih0 _ _ _ _ _ _ _ _ _ _ _
   | exact impl_shape.mono _ _
   | exact LeO.none _
   | refine LeO.ite ?_ ?_
   | refine LeO.bind ?_ (fun _ => ?_)
theorem impl_RespOk.mono : ∀ a0 a1 a2 a3 a4 a5 k, LeO (impl_RespOk.f k a0 a1 a2 a3 a4 a5) (impl_RespOk.f (k + 1) a0 a1 a2 a3 a4 a5) := by
 intro a0 a1 a2 a3 a4 a5 k
 have ih0 := impl_RespOk.mono_l k
 unfold impl_RespOk.f
 repeat' first
   | (with_reducible exact ih0 _ _ _ _ _ _ _ _ _ _ _)
   | (with_reducible exact impl_shape.mono _ _)
   | (with_reducible exact LeO.refl _)
   | (with_reducible exact LeO.none _)
   | (with_reducible refine LeO.ite ?_ ?_)
   | (with_reducible refine LeO.bind ?_ (fun _ => ?_))
   | exact ih0 _ _ _ _ _ _ _ _ _ _ _
   | exact impl_shape.mono _ _
   | exact LeO.none _
   | refine LeO.ite ?_ ?_
   | refine LeO.bind ?_ (fun _ => ?_)
set_option maxHeartbeats 8000000 in
set_option maxRecDepth 100000 in
theorem impl_RespOk.calls (k : Nat) (a0_0 : Int) (a0_1 : Int) (a0_2 : Int) (a0_3 : Int) (A0_4 : Option Addr) (c0_4 : Nat) (l0_4 : List Int) (A0_5 : Option Addr) (c0_5 : Nat) (l0_5 : List Bool) (r : Bool) (w : World) (hr0_4 : Kd.C (Kd.int .i64) w A0_4 l0_4.length l0_4) (hc0_4 : l0_4.length ≤ c0_4) (hr0_5 : Kd.C Kd.bool w A0_5 l0_5.length l0_5) (hc0_5 : l0_5.length ≤ c0_5) (h : impl_RespOk.f k a0_0 a0_1 a0_2 a0_3 l0_4 l0_5 = some r) :
  Calls Try.prog 11 #[.agg #[.int .i64 a0_0, .int .i64 a0_1, .int .i64 a0_2, .int .i64 a0_3, .slice A0_4 l0_4.length c0_4, .slice A0_5 l0_5.length c0_5]] w fun e w' => e = .returned (.bool r) ∧ Below w.heap.size w w' := by
 have hu28 := Try.underlying28
 have hu65 := Try.underlying65
 have HR0_4 := aM hr0_4
 have HC0_4 := aM hc0_4
 clear hr0_4 hc0_4
 have HR0_5 := aM hr0_5
 have HC0_5 := aM hc0_5
 clear hr0_5 hc0_5
 have HB := aM (Below.refl w.heap.size w)
 have H : ((impl_isKind.f a0_0).bind fun t162 => (if t162 = true then (if a0_1 = 0 then ((impl_shape.f k a0_0).bind fun bt164 => ((impl_in.f (l0_4.length : Int) bt164.1 bt164.2.1).bind fun t172 => (if t172 = true then ((impl_in.f (l0_5.length : Int) bt164.2.2.1 bt164.2.2.2.1).bind fun t173 => (if t173 = true then ((impl_allWords.f l0_4).bind fun t174 => (impl_RespOk.j0 k bt164.2.2.2.2.1 bt164.2.2.2.2.2 (!t174) a0_0 a0_1 a0_2 a0_3 l0_4 l0_5 bt164.2.2.1 bt164.2.2.2.1)) else (impl_RespOk.j0 k bt164.2.2.2.2.1 bt164.2.2.2.2.2 true a0_0 a0_1 a0_2 a0_3 l0_4 l0_5 bt164.2.2.1 bt164.2.2.2.1))) else (impl_RespOk.j0 k bt164.2.2.2.2.1 bt164.2.2.2.2.2 true a0_0 a0_1 a0_2 a0_3 l0_4 l0_5 bt164.2.2.1 bt164.2.2.2.1)))) else ((impl_isFault.f a0_0 a0_1 a0_2 a0_3 l0_4 l0_5).bind fun t163 => (some t163))) else (some false))) = some r := h
 clear h
 replace H := Option.bind_eq_some_iff.mp H
 obtain ⟨t162, A20, H⟩ := H
 (try dsimp only at H)
 have A2 := aM A20
 clear A20
 by_cases c3 : t162 = true
 rotate_left
 ·replace c3 := Bool.eq_false_iff.mpr c3
  subst c3
  rw [if_neg (show ¬ (false = true) by decide)] at H
  (try dsimp only at H)
  obtain rfl := Option.some.inj H
  go_enter Try.func11, Try.ntmps11
  go_wp2_with (first | ((with_reducible refine gate_dst (N := 1) rfl ?_); (try (refine gate_guard (by rfl) ?_; dsimp only)); refine box_event ?hg (N := 1) ?hd (cs := #[.int .i64 a0_0, .int .i64 a0_1, .int .i64 a0_2, .int .i64 a0_3, .slice A0_4 l0_4.length c0_4, .slice A0_5 l0_5.length c0_5]) (t := 28) ?hr ?_; (case hd => rfl); (case hg => rfl); (case hr => first | (go_simp; done) | (go_simp; rfl)); intro gb161 hg w241 hbox hb; have _ := aM (below_step (bS HB.out) hb); have _ := aM (hbox); have _ := aM (leG hg (bS HB.out)); have _ := aM (leG hg (bS HB.out)); clear HB; rename_i HB BK161 GW161 GE161; clear hb hbox hg; obtain ⟨hcz242_0, hfz242_0, hcz242_1, hfz242_1, hcz242_2, hfz242_2, hcz242_3, hfz242_3, hcz242_4, hfz242_4, hcz242_5, hfz242_5⟩ := bk6 BK161.out) | ((with_reducible refine gate_callee (f := 39) rfl ?_); refine gL (some 9) rfl rfl Try.func39 (by kernel_rfl) rfl #[.int .i64 a0_0] rfl ?_; (with_reducible refine (impl_isKind.calls a0_0 false _ A2.out).mono ?_); rintro e w' ⟨rfl, ⟨nd, rfl⟩⟩; refine ⟨_, rfl, ?_⟩))
  go_ret
  exact ⟨by first | rfl | (simp [errW_none, errW_some] <;> rfl) | (simp [*, errW_none, errW_some] <;> rfl), bS HB.out⟩
 subst c3
 rw [if_pos rfl] at H
 (try dsimp only at H)
 by_cases c4 : a0_1 = 0
 rotate_left
 ·rw [if_neg c4] at H
  have c4b0 : (a0_1 == 0) = false := beq_eq_false_iff_ne.mpr c4
  have c4b1 : (a0_1 != 0) = true := bne_iff_ne.mpr c4
  replace H := Option.bind_eq_some_iff.mp H
  obtain ⟨t163, A2370, H⟩ := H
  (try dsimp only at H)
  have A237 := aM A2370
  clear A2370
  obtain rfl := Option.some.inj H
  go_enter Try.func11, Try.ntmps11
  go_wp2_with (first | ((with_reducible refine gate_dst (N := 1) rfl ?_); (try (refine gate_guard (by rfl) ?_; dsimp only)); refine box_event ?hg (N := 1) ?hd (cs := #[.int .i64 a0_0, .int .i64 a0_1, .int .i64 a0_2, .int .i64 a0_3, .slice A0_4 l0_4.length c0_4, .slice A0_5 l0_5.length c0_5]) (t := 28) ?hr ?_; (case hd => rfl); (case hg => rfl); (case hr => first | (go_simp; done) | (go_simp; rfl)); intro gb161 hg w238 hbox hb; have _ := aM (below_step (bS HB.out) hb); have _ := aM (hbox); have _ := aM (leG hg (bS HB.out)); have _ := aM (leG hg (bS HB.out)); clear HB; rename_i HB BK161 GW161 GE161; clear hb hbox hg; obtain ⟨hcz239_0, hfz239_0, hcz239_1, hfz239_1, hcz239_2, hfz239_2, hcz239_3, hfz239_3, hcz239_4, hfz239_4, hcz239_5, hfz239_5⟩ := bk6 BK161.out) | ((with_reducible refine gate_callee (f := 39) rfl ?_); refine gL (some 9) rfl rfl Try.func39 (by kernel_rfl) rfl #[.int .i64 a0_0] rfl ?_; (with_reducible refine (impl_isKind.calls a0_0 true _ A2.out).mono ?_); rintro e w' ⟨rfl, ⟨nd, rfl⟩⟩; refine ⟨_, rfl, ?_⟩) | ((with_reducible refine gate_callee (f := 40) rfl ?_); refine gL (some 15) rfl rfl Try.func40 (by kernel_rfl) rfl #[.agg #[.int .i64 a0_0, .int .i64 a0_1, .int .i64 a0_2, .int .i64 a0_3, .slice A0_4 l0_4.length c0_4, .slice A0_5 l0_5.length c0_5]] rfl ?_; (with_reducible refine (impl_isFault.calls a0_0 a0_1 a0_2 a0_3 _ _ l0_4 _ _ l0_5 t163 _ ?side1 ?side2 ?side3 ?side4 A237.out).mono ?_); (case side1 => repeat (first | exact (Kd.C_below HR0_4.out (bS HB.out)) | (with_reducible refine Kd.C_alloc ?_ _) | (with_reducible refine Kd.C_drewN ?_ _) | (with_reducible refine Kd.C_drew ?_))); (case side2 => exact HC0_4.out); (case side3 => repeat (first | exact (Kd.C_below HR0_5.out (bS HB.out)) | (with_reducible refine Kd.C_alloc ?_ _) | (with_reducible refine Kd.C_drewN ?_ _) | (with_reducible refine Kd.C_drew ?_))); (case side4 => exact HC0_5.out); rintro e w240 ⟨rfl, hb⟩; refine ⟨_, rfl, ?_⟩; have _ := aM (kB BK161.out hb); have _ := aM (below_step (bS HB.out) hb); clear BK161 HB; rename_i BK161 HB; (try clear hb)))
  go_ret
  exact ⟨by first | rfl | (simp [errW_none, errW_some] <;> rfl) | (simp [*, errW_none, errW_some] <;> rfl), bS HB.out⟩
 rw [if_pos c4] at H
 have c4b0 : (a0_1 == 0) = true := beq_iff_eq.mpr c4
 have c4b1 : (a0_1 != 0) = false := bne_eq_false_iff_eq.mpr c4
 clear c4
 replace H := Option.bind_eq_some_iff.mp H
 obtain ⟨⟨t164, t165, t166, t167, t168, t169⟩, A50, H⟩ := H
 (try dsimp only at H)
 have A5 := aM A50
 clear A50
 have HC6 := aM H
 clear H
 go_enter Try.func11, Try.ntmps11
 go_upto_region 6 with (first | ((with_reducible refine gate_dst (N := 1) rfl ?_); (try (refine gate_guard (by rfl) ?_; dsimp only)); refine box_event ?hg (N := 1) ?hd (cs := #[.int .i64 a0_0, .int .i64 a0_1, .int .i64 a0_2, .int .i64 a0_3, .slice A0_4 l0_4.length c0_4, .slice A0_5 l0_5.length c0_5]) (t := 28) ?hr ?_; (case hd => rfl); (case hg => rfl); (case hr => first | (go_simp; done) | (go_simp; rfl)); intro gb161 hg w7 hbox hb; have _ := aM (below_step (bS HB.out) hb); have _ := aM (hbox); have _ := aM (leG hg (bS HB.out)); have _ := aM (leG hg (bS HB.out)); clear HB; rename_i HB BK161 GW161 GE161; clear hb hbox hg; obtain ⟨hcz8_0, hfz8_0, hcz8_1, hfz8_1, hcz8_2, hfz8_2, hcz8_3, hfz8_3, hcz8_4, hfz8_4, hcz8_5, hfz8_5⟩ := bk6 BK161.out) | ((with_reducible refine gate_callee (f := 39) rfl ?_); refine gL (some 9) rfl rfl Try.func39 (by kernel_rfl) rfl #[.int .i64 a0_0] rfl ?_; (with_reducible refine (impl_isKind.calls a0_0 true _ A2.out).mono ?_); rintro e w' ⟨rfl, ⟨nd, rfl⟩⟩; refine ⟨_, rfl, ?_⟩; (try (rw [drewN_self w7]; generalize hq_ : World.drewN w7 _ = w7; have n0_ : Aside0 (w7.heap[gb161]? = some (.cells #[.int .i64 a0_0, .int .i64 a0_1, .int .i64 a0_2, .int .i64 a0_3, .slice A0_4 l0_4.length c0_4, .slice A0_5 l0_5.length c0_5] 28 (0, 0))) := ⟨by rw [← hq_]; exact (kA BK161.out)⟩; have n1_ : Aside0 (Below w.heap.size w w7) := ⟨by rw [← hq_]; exact (bS HB.out)⟩; clear BK161 HB hq_; have BK161 := n0_; have HB := n1_; clear n0_ n1_; have hcugb161_0 : w7.cell? ⟨gb161, 0, none⟩ = some (.int .i64 a0_0) := (blk_cell BK161.out 0).trans rfl; have hfugb161_0 := blk_frozen BK161.out 0; have hcugb161_1 : w7.cell? ⟨gb161, 1, none⟩ = some (.int .i64 a0_1) := (blk_cell BK161.out 1).trans rfl; have hfugb161_1 := blk_frozen BK161.out 1; have hcugb161_2 : w7.cell? ⟨gb161, 2, none⟩ = some (.int .i64 a0_2) := (blk_cell BK161.out 2).trans rfl; have hfugb161_2 := blk_frozen BK161.out 2; have hcugb161_3 : w7.cell? ⟨gb161, 3, none⟩ = some (.int .i64 a0_3) := (blk_cell BK161.out 3).trans rfl; have hfugb161_3 := blk_frozen BK161.out 3; have hcugb161_4 : w7.cell? ⟨gb161, 4, none⟩ = some (.slice A0_4 l0_4.length c0_4) := (blk_cell BK161.out 4).trans rfl; have hfugb161_4 := blk_frozen BK161.out 4; have hcugb161_5 : w7.cell? ⟨gb161, 5, none⟩ = some (.slice A0_5 l0_5.length c0_5) := (blk_cell BK161.out 5).trans rfl; have hfugb161_5 := blk_frozen BK161.out 5))) | ((with_reducible refine gate_callee (f := 41) rfl ?_); refine gL (some 19) rfl rfl Try.func41 (by kernel_rfl) rfl #[.int .i64 a0_0] rfl ?_; (with_reducible refine (impl_shape.calls k a0_0 t164 t165 t166 t167 t168 t169 _ A5.out).mono ?_); rintro e w9 ⟨rfl, hb⟩; refine ⟨_, rfl, ?_⟩; have _ := aM (kB BK161.out hb); have _ := aM (below_step (bS HB.out) hb); clear BK161 HB; rename_i BK161 HB; (try clear hb)) | ((with_reducible refine gate_dst (N := 3) rfl ?_); (try (refine gate_guard (by rfl) ?_; dsimp only)); refine box_event ?hg (N := 3) ?hd (cs := #[.int .i64 0, .int .i64 0]) (t := 65) ?hr ?_; (case hd => rfl); (case hg => rfl); (case hr => first | (go_simp; done) | (go_simp; rfl)); intro gb170 hg w10 hbox hb; have _ := aM (kB BK161.out hb); have _ := aM (below_step (bS HB.out) hb); have _ := aM (hbox); have _ := aM (leG hg (bS HB.out)); have _ := aM (leG hg (bS HB.out)); have _ := aM (neL hg (kA BK161.out)); have _ := aM (neG hg (kA BK161.out)); clear BK161 HB; rename_i BK161 HB BK170 GW170 GE170 NB161_170 NB170_161; clear hb hbox hg) | ((with_reducible refine gate_dst (N := 4) rfl ?_); (try (refine gate_guard (by rfl) ?_; dsimp only)); refine box_event ?hg (N := 4) ?hd (cs := #[.int .i64 0, .int .i64 0]) (t := 65) ?hr ?_; (case hd => rfl); (case hg => rfl); (case hr => first | (go_simp; done) | (go_simp; rfl)); intro gb171 hg w11 hbox hb; have _ := aM (kB BK161.out hb); have _ := aM (kB BK170.out hb); have _ := aM (below_step (bS HB.out) hb); have _ := aM (hbox); have _ := aM (leG hg (bS HB.out)); have _ := aM (leG hg (bS HB.out)); have _ := aM (neL hg (kA BK161.out)); have _ := aM (neG hg (kA BK161.out)); have _ := aM (neL hg (kA BK170.out)); have _ := aM (neG hg (kA BK170.out)); clear BK161 BK170 HB; rename_i BK161 BK170 HB BK171 GW171 GE171 NB161_171 NB171_161 NB170_171 NB171_170; clear hb hbox hg; have hnb12 := NB170_161.out; have hnc12 := NB161_170.out; have hnb13 := NB170_171.out; have hnc13 := NB171_170.out; obtain ⟨hcz14_0, hfz14_0, hcz14_1, hfz14_1⟩ := bk2 BK170.out; have hnb15 := NB171_161.out; have hnc15 := NB161_171.out; obtain ⟨hcz16_0, hfz16_0, hcz16_1, hfz16_1⟩ := bk2 BK171.out))
 (try simp only [Act.put, List.setIfInBounds_toArray, List.set_cons_zero, List.set_cons_succ])
 go_cut [49] (fun v49 wc => ∃ (kq : Nat) (x49_5 : Bool), v49 = .bool x49_5 ∧ Aside0 (impl_RespOk.j0 kq t168 t169 x49_5 a0_0 a0_1 a0_2 a0_3 l0_4 l0_5 t166 t167 = some r) ∧ Aside0 (kq ≤ k) ∧ Aside0 (wc.heap[gb161]? = some (.cells #[.int .i64 a0_0, .int .i64 a0_1, .int .i64 a0_2, .int .i64 a0_3, (.slice A0_4 l0_4.length c0_4), (.slice A0_5 l0_5.length c0_5)] 28 (0, 0))) ∧ Aside0 (wc.heap[gb170]? = some (.cells #[.int .i64 t164, .int .i64 t165] 65 (0, 0))) ∧ Aside0 (wc.heap[gb171]? = some (.cells #[.int .i64 t166, .int .i64 t167] 65 (0, 0))) ∧ Aside0 (Below w.heap.size w wc))
 case first =>
  have H := HC6.out
  clear HC6
  replace H := Option.bind_eq_some_iff.mp H
  obtain ⟨t172, A170, H⟩ := H
  (try dsimp only at H)
  have A17 := aM A170
  clear A170
  by_cases c18 : t172 = true
  rotate_left
  ·replace c18 := Bool.eq_false_iff.mpr c18
   subst c18
   rw [if_neg (show ¬ (false = true) by decide)] at H
   (try dsimp only at H)
   have H' := aM H
   clear H
   have hnb34 := NB161_170.out
   have hnc34 := NB170_161.out
   have hnb35 := NB161_171.out
   have hnc35 := NB171_161.out
   obtain ⟨hcz36_0, hfz36_0, hcz36_1, hfz36_1, hcz36_2, hfz36_2, hcz36_3, hfz36_3, hcz36_4, hfz36_4, hcz36_5, hfz36_5⟩ := bk6 BK161.out
   have hnb37 := NB170_171.out
   have hnc37 := NB171_170.out
   obtain ⟨hcz38_0, hfz38_0, hcz38_1, hfz38_1⟩ := bk2 BK170.out
   go_wp2_with (first | ((with_reducible refine gate_callee (f := 42) rfl ?_); refine gL (some 31) rfl rfl Try.func42 (by kernel_rfl) rfl #[.int .i64 (l0_4.length : Int), .int .i64 t164, .int .i64 t165] rfl ?_; (with_reducible refine (impl_in.calls (l0_4.length : Int) t164 t165 false _ A17.out).mono ?_); rintro e w' ⟨rfl, ⟨nd, rfl⟩⟩; refine ⟨_, rfl, ?_⟩))
   go_meet
   case rel => exact ⟨_, (true), (by first | rfl | (simp; done) | (simp [*]; done)), H', ⟨by first | omega | exact Nat.le_refl _⟩, ⟨kX BK161.out⟩, ⟨kX BK170.out⟩, ⟨kX BK171.out⟩, ⟨bS HB.out⟩⟩
  subst c18
  rw [if_pos rfl] at H
  (try dsimp only at H)
  replace H := Option.bind_eq_some_iff.mp H
  obtain ⟨t173, A190, H⟩ := H
  (try dsimp only at H)
  have A19 := aM A190
  clear A190
  by_cases c20 : t173 = true
  rotate_left
  ·replace c20 := Bool.eq_false_iff.mpr c20
   subst c20
   rw [if_neg (show ¬ (false = true) by decide)] at H
   (try dsimp only at H)
   have H' := aM H
   clear H
   have hnb28 := NB161_170.out
   have hnc28 := NB170_161.out
   have hnb29 := NB161_171.out
   have hnc29 := NB171_161.out
   obtain ⟨hcz30_0, hfz30_0, hcz30_1, hfz30_1, hcz30_2, hfz30_2, hcz30_3, hfz30_3, hcz30_4, hfz30_4, hcz30_5, hfz30_5⟩ := bk6 BK161.out
   have hnb31 := NB170_171.out
   have hnc31 := NB171_170.out
   obtain ⟨hcz32_0, hfz32_0, hcz32_1, hfz32_1⟩ := bk2 BK170.out
   go_wp2_with (first | ((with_reducible refine gate_callee (f := 42) rfl ?_); refine gL (some 31) rfl rfl Try.func42 (by kernel_rfl) rfl #[.int .i64 (l0_4.length : Int), .int .i64 t164, .int .i64 t165] rfl ?_; (with_reducible refine (impl_in.calls (l0_4.length : Int) t164 t165 true _ A17.out).mono ?_); rintro e w' ⟨rfl, ⟨nd, rfl⟩⟩; refine ⟨_, rfl, ?_⟩; obtain ⟨hcz33_0, hfz33_0, hcz33_1, hfz33_1⟩ := bk2 BK171.out) | (go_at_call 42; (with_reducible refine (impl_in.calls (l0_5.length : Int) t166 t167 false _ A19.out).mono ?_); rintro e w' ⟨rfl, ⟨nd, rfl⟩⟩))
   go_meet
   case rel => exact ⟨_, (true), (by first | rfl | (simp; done) | (simp [*]; done)), H', ⟨by first | omega | exact Nat.le_refl _⟩, ⟨kX BK161.out⟩, ⟨kX BK170.out⟩, ⟨kX BK171.out⟩, ⟨bS HB.out⟩⟩
  subst c20
  rw [if_pos rfl] at H
  (try dsimp only at H)
  replace H := Option.bind_eq_some_iff.mp H
  obtain ⟨t174, A210, H⟩ := H
  (try dsimp only at H)
  have A21 := aM A210
  clear A210
  have H' := aM H
  clear H
  have hnb22 := NB161_170.out
  have hnc22 := NB170_161.out
  have hnb23 := NB161_171.out
  have hnc23 := NB171_161.out
  obtain ⟨hcz24_0, hfz24_0, hcz24_1, hfz24_1, hcz24_2, hfz24_2, hcz24_3, hfz24_3, hcz24_4, hfz24_4, hcz24_5, hfz24_5⟩ := bk6 BK161.out
  have hnb25 := NB170_171.out
  have hnc25 := NB171_170.out
  obtain ⟨hcz26_0, hfz26_0, hcz26_1, hfz26_1⟩ := bk2 BK170.out
  go_wp2_with (first | ((with_reducible refine gate_callee (f := 42) rfl ?_); refine gL (some 31) rfl rfl Try.func42 (by kernel_rfl) rfl #[.int .i64 (l0_4.length : Int), .int .i64 t164, .int .i64 t165] rfl ?_; (with_reducible refine (impl_in.calls (l0_4.length : Int) t164 t165 true _ A17.out).mono ?_); rintro e w' ⟨rfl, ⟨nd, rfl⟩⟩; refine ⟨_, rfl, ?_⟩; obtain ⟨hcz27_0, hfz27_0, hcz27_1, hfz27_1⟩ := bk2 BK171.out) | (go_at_call 42; (with_reducible refine (impl_in.calls (l0_5.length : Int) t166 t167 true _ A19.out).mono ?_); rintro e w' ⟨rfl, ⟨nd, rfl⟩⟩) | (go_at_call 43; (with_reducible refine (impl_allWords.calls _ _ l0_4 t174 _ ?side1 ?side2 A21.out).mono ?_); (case side1 => exact Kd.C_below HR0_4.out (bS HB.out)); (case side2 => exact HC0_4.out); rintro e w' ⟨rfl, ⟨nd, rfl⟩⟩))
  go_meet
  case rel => exact ⟨_, (!t174), (by first | rfl | (simp; done) | (simp [*]; done)), H', ⟨by first | omega | exact Nat.le_refl _⟩, ⟨kX BK161.out⟩, ⟨kX BK170.out⟩, ⟨kX BK171.out⟩, ⟨bS HB.out⟩⟩
 case rest =>
  clear HC6
  try clear c3
  try clear c4
  try clear c4b0
  try clear c4b1
  try clear hcz14_0
  try clear hcz14_1
  try clear hcz16_0
  try clear hcz16_1
  try clear hcz8_0
  try clear hcz8_1
  try clear hcz8_2
  try clear hcz8_3
  try clear hcz8_4
  try clear hcz8_5
  try clear hfz14_0
  try clear hfz14_1
  try clear hfz16_0
  try clear hfz16_1
  try clear hfz8_0
  try clear hfz8_1
  try clear hfz8_2
  try clear hfz8_3
  try clear hfz8_4
  try clear hfz8_5
  obtain ⟨kq, x49_5, rfl, HA, HJ5, BK161, BK170, BK171, HB⟩ := hcut
  cases kq with
  | zero => exact absurd HA.out (by simp [impl_RespOk.j0])
  | succ kj5 =>
   have H := HA.out
   clear HA
   simp only [impl_RespOk.j0] at H
   by_cases c39 : x49_5 = true
   ·subst c39
    rw [if_pos rfl] at H
    (try dsimp only at H)
    obtain rfl := Option.some.inj H
    go_wp2
    go_ret
    exact ⟨by first | rfl | (simp [errW_none, errW_some] <;> rfl) | (simp [*, errW_none, errW_some] <;> rfl), bS HB.out⟩
   ·replace c39 := Bool.eq_false_iff.mpr c39
    subst c39
    rw [if_neg (show ¬ (false = true) by decide)] at H
    (try dsimp only at H)
    by_cases c40 : t167 > 1
    rotate_left
    ·rw [if_neg c40] at H
     have c40b0 : decide (1 < t167) = false := decide_eq_false c40
     clear c40
     by_cases c142 : t168 = 0
     rotate_left
     ·rw [if_neg c142] at H
      have c142b0 : (t168 == 0) = false := beq_eq_false_iff_ne.mpr c142
      have c142b1 : (t168 != 0) = true := bne_iff_ne.mpr c142
      by_cases c193 : t168 > 0
      rotate_left
      ·rw [if_neg c193] at H
       have c193b0 : decide (0 < t168) = false := decide_eq_false c193
       clear c193
       by_cases c219 : t169 = true
       rotate_left
       ·replace c219 := Bool.eq_false_iff.mpr c219
        subst c219
        rw [if_neg (show ¬ (false = true) by decide)] at H
        (try dsimp only at H)
        obtain rfl := Option.some.inj H
        have hnb232 := NB171_161.out
        have hnc232 := NB161_171.out
        have hnb233 := NB171_170.out
        have hnc233 := NB170_171.out
        obtain ⟨hcz234_0, hfz234_0, hcz234_1, hfz234_1⟩ := bk2 BK171.out
        have hnb235 := NB161_170.out
        have hnc235 := NB170_161.out
        obtain ⟨hcz236_0, hfz236_0, hcz236_1, hfz236_1, hcz236_2, hfz236_2, hcz236_3, hfz236_3, hcz236_4, hfz236_4, hcz236_5, hfz236_5⟩ := bk6 BK161.out
        go_wp2
        go_ret
        exact ⟨by first | rfl | (simp [errW_none, errW_some] <;> rfl) | (simp [*, errW_none, errW_some] <;> rfl), bS HB.out⟩
       subst c219
       rw [if_pos rfl] at H
       (try dsimp only at H)
       replace H := Option.bind_eq_some_iff.mp H
       obtain ⟨t186, A2200, H⟩ := H
       (try dsimp only at H)
       have A220 := aM A2200
       clear A2200
       by_cases c221 : t186 = true
       rotate_left
       ·replace c221 := Bool.eq_false_iff.mpr c221
        subst c221
        rw [if_neg (show ¬ (false = true) by decide)] at H
        (try dsimp only at H)
        obtain rfl := Option.some.inj H
        have hnb227 := NB171_161.out
        have hnc227 := NB161_171.out
        have hnb228 := NB171_170.out
        have hnc228 := NB170_171.out
        obtain ⟨hcz229_0, hfz229_0, hcz229_1, hfz229_1⟩ := bk2 BK171.out
        have hnb230 := NB161_170.out
        have hnc230 := NB170_161.out
        obtain ⟨hcz231_0, hfz231_0, hcz231_1, hfz231_1, hcz231_2, hfz231_2, hcz231_3, hfz231_3, hcz231_4, hfz231_4, hcz231_5, hfz231_5⟩ := bk6 BK161.out
        go_wp2_with (first | (go_at_call 44; (with_reducible refine (impl_isWord.calls a0_2 false _ A220.out).mono ?_); rintro e w' ⟨rfl, ⟨nd, rfl⟩⟩))
        go_ret
        exact ⟨by first | rfl | (simp [errW_none, errW_some] <;> rfl) | (simp [*, errW_none, errW_some] <;> rfl), bS HB.out⟩
       subst c221
       rw [if_pos rfl] at H
       (try dsimp only at H)
       obtain rfl := Option.some.inj H
       have hnb222 := NB171_161.out
       have hnc222 := NB161_171.out
       have hnb223 := NB171_170.out
       have hnc223 := NB170_171.out
       obtain ⟨hcz224_0, hfz224_0, hcz224_1, hfz224_1⟩ := bk2 BK171.out
       have hnb225 := NB161_170.out
       have hnc225 := NB170_161.out
       obtain ⟨hcz226_0, hfz226_0, hcz226_1, hfz226_1, hcz226_2, hfz226_2, hcz226_3, hfz226_3, hcz226_4, hfz226_4, hcz226_5, hfz226_5⟩ := bk6 BK161.out
       go_wp2_with (first | (go_at_call 44; (with_reducible refine (impl_isWord.calls a0_2 true _ A220.out).mono ?_); rintro e w' ⟨rfl, ⟨nd, rfl⟩⟩))
       go_ret
       exact ⟨by first | rfl | (simp [errW_none, errW_some] <;> rfl) | (simp [*, errW_none, errW_some] <;> rfl), bS HB.out⟩
      rw [if_pos c193] at H
      have c193b0 : decide (0 < t168) = true := decide_eq_true c193
      clear c193
      replace H := Option.bind_eq_some_iff.mp H
      obtain ⟨t184, A1940, H⟩ := H
      (try dsimp only at H)
      have A194 := aM A1940
      clear A1940
      by_cases c195 : t184 = true
      rotate_left
      ·replace c195 := Bool.eq_false_iff.mpr c195
       subst c195
       rw [if_neg (show ¬ (false = true) by decide)] at H
       (try dsimp only at H)
       obtain rfl := Option.some.inj H
       have hnb214 := NB171_161.out
       have hnc214 := NB161_171.out
       have hnb215 := NB171_170.out
       have hnc215 := NB170_171.out
       obtain ⟨hcz216_0, hfz216_0, hcz216_1, hfz216_1⟩ := bk2 BK171.out
       have hnb217 := NB161_170.out
       have hnc217 := NB170_161.out
       obtain ⟨hcz218_0, hfz218_0, hcz218_1, hfz218_1, hcz218_2, hfz218_2, hcz218_3, hfz218_3, hcz218_4, hfz218_4, hcz218_5, hfz218_5⟩ := bk6 BK161.out
       go_wp2_with (first | (go_at_call 42; (with_reducible refine (impl_in.calls a0_3 1 t168 false _ A194.out).mono ?_); rintro e w' ⟨rfl, ⟨nd, rfl⟩⟩))
       go_ret
       exact ⟨by first | rfl | (simp [errW_none, errW_some] <;> rfl) | (simp [*, errW_none, errW_some] <;> rfl), bS HB.out⟩
      subst c195
      rw [if_pos rfl] at H
      (try dsimp only at H)
      by_cases c196 : t169 = true
      rotate_left
      ·replace c196 := Bool.eq_false_iff.mpr c196
       subst c196
       rw [if_neg (show ¬ (false = true) by decide)] at H
       (try dsimp only at H)
       obtain rfl := Option.some.inj H
       have hnb209 := NB171_161.out
       have hnc209 := NB161_171.out
       have hnb210 := NB171_170.out
       have hnc210 := NB170_171.out
       obtain ⟨hcz211_0, hfz211_0, hcz211_1, hfz211_1⟩ := bk2 BK171.out
       have hnb212 := NB161_170.out
       have hnc212 := NB170_161.out
       obtain ⟨hcz213_0, hfz213_0, hcz213_1, hfz213_1, hcz213_2, hfz213_2, hcz213_3, hfz213_3, hcz213_4, hfz213_4, hcz213_5, hfz213_5⟩ := bk6 BK161.out
       go_wp2_with (first | (go_at_call 42; (with_reducible refine (impl_in.calls a0_3 1 t168 true _ A194.out).mono ?_); rintro e w' ⟨rfl, ⟨nd, rfl⟩⟩))
       go_ret
       exact ⟨by first | rfl | (simp [errW_none, errW_some] <;> rfl) | (simp [*, errW_none, errW_some] <;> rfl), bS HB.out⟩
      subst c196
      rw [if_pos rfl] at H
      (try dsimp only at H)
      replace H := Option.bind_eq_some_iff.mp H
      obtain ⟨t185, A1970, H⟩ := H
      (try dsimp only at H)
      have A197 := aM A1970
      clear A1970
      by_cases c198 : t185 = true
      rotate_left
      ·replace c198 := Bool.eq_false_iff.mpr c198
       subst c198
       rw [if_neg (show ¬ (false = true) by decide)] at H
       (try dsimp only at H)
       obtain rfl := Option.some.inj H
       have hnb204 := NB171_161.out
       have hnc204 := NB161_171.out
       have hnb205 := NB171_170.out
       have hnc205 := NB170_171.out
       obtain ⟨hcz206_0, hfz206_0, hcz206_1, hfz206_1⟩ := bk2 BK171.out
       have hnb207 := NB161_170.out
       have hnc207 := NB170_161.out
       obtain ⟨hcz208_0, hfz208_0, hcz208_1, hfz208_1, hcz208_2, hfz208_2, hcz208_3, hfz208_3, hcz208_4, hfz208_4, hcz208_5, hfz208_5⟩ := bk6 BK161.out
       go_wp2_with (first | (go_at_call 42; (with_reducible refine (impl_in.calls a0_3 1 t168 true _ A194.out).mono ?_); rintro e w' ⟨rfl, ⟨nd, rfl⟩⟩) | (go_at_call 44; (with_reducible refine (impl_isWord.calls a0_2 false _ A197.out).mono ?_); rintro e w' ⟨rfl, ⟨nd, rfl⟩⟩))
       go_ret
       exact ⟨by first | rfl | (simp [errW_none, errW_some] <;> rfl) | (simp [*, errW_none, errW_some] <;> rfl), bS HB.out⟩
      subst c198
      rw [if_pos rfl] at H
      (try dsimp only at H)
      obtain rfl := Option.some.inj H
      have hnb199 := NB171_161.out
      have hnc199 := NB161_171.out
      have hnb200 := NB171_170.out
      have hnc200 := NB170_171.out
      obtain ⟨hcz201_0, hfz201_0, hcz201_1, hfz201_1⟩ := bk2 BK171.out
      have hnb202 := NB161_170.out
      have hnc202 := NB170_161.out
      obtain ⟨hcz203_0, hfz203_0, hcz203_1, hfz203_1, hcz203_2, hfz203_2, hcz203_3, hfz203_3, hcz203_4, hfz203_4, hcz203_5, hfz203_5⟩ := bk6 BK161.out
      go_wp2_with (first | (go_at_call 42; (with_reducible refine (impl_in.calls a0_3 1 t168 true _ A194.out).mono ?_); rintro e w' ⟨rfl, ⟨nd, rfl⟩⟩) | (go_at_call 44; (with_reducible refine (impl_isWord.calls a0_2 true _ A197.out).mono ?_); rintro e w' ⟨rfl, ⟨nd, rfl⟩⟩))
      go_ret
      exact ⟨by first | rfl | (simp [errW_none, errW_some] <;> rfl) | (simp [*, errW_none, errW_some] <;> rfl), bS HB.out⟩
     rw [if_pos c142] at H
     have c142b0 : (t168 == 0) = true := beq_iff_eq.mpr c142
     have c142b1 : (t168 != 0) = false := bne_eq_false_iff_eq.mpr c142
     clear c142
     by_cases c143 : a0_3 = 0
     rotate_left
     ·rw [if_neg c143] at H
      have c143b0 : (a0_3 == 0) = false := beq_eq_false_iff_ne.mpr c143
      have c143b1 : (a0_3 != 0) = true := bne_iff_ne.mpr c143
      obtain rfl := Option.some.inj H
      have hnb188 := NB171_161.out
      have hnc188 := NB161_171.out
      have hnb189 := NB171_170.out
      have hnc189 := NB170_171.out
      obtain ⟨hcz190_0, hfz190_0, hcz190_1, hfz190_1⟩ := bk2 BK171.out
      have hnb191 := NB161_170.out
      have hnc191 := NB170_161.out
      obtain ⟨hcz192_0, hfz192_0, hcz192_1, hfz192_1, hcz192_2, hfz192_2, hcz192_3, hfz192_3, hcz192_4, hfz192_4, hcz192_5, hfz192_5⟩ := bk6 BK161.out
      go_wp2
      go_ret
      exact ⟨by first | rfl | (simp [errW_none, errW_some] <;> rfl) | (simp [*, errW_none, errW_some] <;> rfl), bS HB.out⟩
     rw [if_pos c143] at H
     have c143b0 : (a0_3 == 0) = true := beq_iff_eq.mpr c143
     have c143b1 : (a0_3 != 0) = false := bne_eq_false_iff_eq.mpr c143
     clear c143
     by_cases c144 : t168 > 0
     rotate_left
     ·rw [if_neg c144] at H
      have c144b0 : decide (0 < t168) = false := decide_eq_false c144
      clear c144
      by_cases c170 : t169 = true
      rotate_left
      ·replace c170 := Bool.eq_false_iff.mpr c170
       subst c170
       rw [if_neg (show ¬ (false = true) by decide)] at H
       (try dsimp only at H)
       obtain rfl := Option.some.inj H
       have hnb183 := NB171_161.out
       have hnc183 := NB161_171.out
       have hnb184 := NB171_170.out
       have hnc184 := NB170_171.out
       obtain ⟨hcz185_0, hfz185_0, hcz185_1, hfz185_1⟩ := bk2 BK171.out
       have hnb186 := NB161_170.out
       have hnc186 := NB170_161.out
       obtain ⟨hcz187_0, hfz187_0, hcz187_1, hfz187_1, hcz187_2, hfz187_2, hcz187_3, hfz187_3, hcz187_4, hfz187_4, hcz187_5, hfz187_5⟩ := bk6 BK161.out
       go_wp2
       go_ret
       exact ⟨by first | rfl | (simp [errW_none, errW_some] <;> rfl) | (simp [*, errW_none, errW_some] <;> rfl), bS HB.out⟩
      subst c170
      rw [if_pos rfl] at H
      (try dsimp only at H)
      replace H := Option.bind_eq_some_iff.mp H
      obtain ⟨t183, A1710, H⟩ := H
      (try dsimp only at H)
      have A171 := aM A1710
      clear A1710
      by_cases c172 : t183 = true
      rotate_left
      ·replace c172 := Bool.eq_false_iff.mpr c172
       subst c172
       rw [if_neg (show ¬ (false = true) by decide)] at H
       (try dsimp only at H)
       obtain rfl := Option.some.inj H
       have hnb178 := NB171_161.out
       have hnc178 := NB161_171.out
       have hnb179 := NB171_170.out
       have hnc179 := NB170_171.out
       obtain ⟨hcz180_0, hfz180_0, hcz180_1, hfz180_1⟩ := bk2 BK171.out
       have hnb181 := NB161_170.out
       have hnc181 := NB170_161.out
       obtain ⟨hcz182_0, hfz182_0, hcz182_1, hfz182_1, hcz182_2, hfz182_2, hcz182_3, hfz182_3, hcz182_4, hfz182_4, hcz182_5, hfz182_5⟩ := bk6 BK161.out
       go_wp2_with (first | (go_at_call 44; (with_reducible refine (impl_isWord.calls a0_2 false _ A171.out).mono ?_); rintro e w' ⟨rfl, ⟨nd, rfl⟩⟩))
       go_ret
       exact ⟨by first | rfl | (simp [errW_none, errW_some] <;> rfl) | (simp [*, errW_none, errW_some] <;> rfl), bS HB.out⟩
      subst c172
      rw [if_pos rfl] at H
      (try dsimp only at H)
      obtain rfl := Option.some.inj H
      have hnb173 := NB171_161.out
      have hnc173 := NB161_171.out
      have hnb174 := NB171_170.out
      have hnc174 := NB170_171.out
      obtain ⟨hcz175_0, hfz175_0, hcz175_1, hfz175_1⟩ := bk2 BK171.out
      have hnb176 := NB161_170.out
      have hnc176 := NB170_161.out
      obtain ⟨hcz177_0, hfz177_0, hcz177_1, hfz177_1, hcz177_2, hfz177_2, hcz177_3, hfz177_3, hcz177_4, hfz177_4, hcz177_5, hfz177_5⟩ := bk6 BK161.out
      go_wp2_with (first | (go_at_call 44; (with_reducible refine (impl_isWord.calls a0_2 true _ A171.out).mono ?_); rintro e w' ⟨rfl, ⟨nd, rfl⟩⟩))
      go_ret
      exact ⟨by first | rfl | (simp [errW_none, errW_some] <;> rfl) | (simp [*, errW_none, errW_some] <;> rfl), bS HB.out⟩
     rw [if_pos c144] at H
     have c144b0 : decide (0 < t168) = true := decide_eq_true c144
     clear c144
     replace H := Option.bind_eq_some_iff.mp H
     obtain ⟨t181, A1450, H⟩ := H
     (try dsimp only at H)
     have A145 := aM A1450
     clear A1450
     by_cases c146 : t181 = true
     rotate_left
     ·replace c146 := Bool.eq_false_iff.mpr c146
      subst c146
      rw [if_neg (show ¬ (false = true) by decide)] at H
      (try dsimp only at H)
      obtain rfl := Option.some.inj H
      have hnb165 := NB171_161.out
      have hnc165 := NB161_171.out
      have hnb166 := NB171_170.out
      have hnc166 := NB170_171.out
      obtain ⟨hcz167_0, hfz167_0, hcz167_1, hfz167_1⟩ := bk2 BK171.out
      have hnb168 := NB161_170.out
      have hnc168 := NB170_161.out
      obtain ⟨hcz169_0, hfz169_0, hcz169_1, hfz169_1, hcz169_2, hfz169_2, hcz169_3, hfz169_3, hcz169_4, hfz169_4, hcz169_5, hfz169_5⟩ := bk6 BK161.out
      go_wp2_with (first | (go_at_call 42; (with_reducible refine (impl_in.calls a0_3 1 t168 false _ A145.out).mono ?_); rintro e w' ⟨rfl, ⟨nd, rfl⟩⟩))
      go_ret
      exact ⟨by first | rfl | (simp [errW_none, errW_some] <;> rfl) | (simp [*, errW_none, errW_some] <;> rfl), bS HB.out⟩
     subst c146
     rw [if_pos rfl] at H
     (try dsimp only at H)
     by_cases c147 : t169 = true
     rotate_left
     ·replace c147 := Bool.eq_false_iff.mpr c147
      subst c147
      rw [if_neg (show ¬ (false = true) by decide)] at H
      (try dsimp only at H)
      obtain rfl := Option.some.inj H
      have hnb160 := NB171_161.out
      have hnc160 := NB161_171.out
      have hnb161 := NB171_170.out
      have hnc161 := NB170_171.out
      obtain ⟨hcz162_0, hfz162_0, hcz162_1, hfz162_1⟩ := bk2 BK171.out
      have hnb163 := NB161_170.out
      have hnc163 := NB170_161.out
      obtain ⟨hcz164_0, hfz164_0, hcz164_1, hfz164_1, hcz164_2, hfz164_2, hcz164_3, hfz164_3, hcz164_4, hfz164_4, hcz164_5, hfz164_5⟩ := bk6 BK161.out
      go_wp2_with (first | (go_at_call 42; (with_reducible refine (impl_in.calls a0_3 1 t168 true _ A145.out).mono ?_); rintro e w' ⟨rfl, ⟨nd, rfl⟩⟩))
      go_ret
      exact ⟨by first | rfl | (simp [errW_none, errW_some] <;> rfl) | (simp [*, errW_none, errW_some] <;> rfl), bS HB.out⟩
     subst c147
     rw [if_pos rfl] at H
     (try dsimp only at H)
     replace H := Option.bind_eq_some_iff.mp H
     obtain ⟨t182, A1480, H⟩ := H
     (try dsimp only at H)
     have A148 := aM A1480
     clear A1480
     by_cases c149 : t182 = true
     rotate_left
     ·replace c149 := Bool.eq_false_iff.mpr c149
      subst c149
      rw [if_neg (show ¬ (false = true) by decide)] at H
      (try dsimp only at H)
      obtain rfl := Option.some.inj H
      have hnb155 := NB171_161.out
      have hnc155 := NB161_171.out
      have hnb156 := NB171_170.out
      have hnc156 := NB170_171.out
      obtain ⟨hcz157_0, hfz157_0, hcz157_1, hfz157_1⟩ := bk2 BK171.out
      have hnb158 := NB161_170.out
      have hnc158 := NB170_161.out
      obtain ⟨hcz159_0, hfz159_0, hcz159_1, hfz159_1, hcz159_2, hfz159_2, hcz159_3, hfz159_3, hcz159_4, hfz159_4, hcz159_5, hfz159_5⟩ := bk6 BK161.out
      go_wp2_with (first | (go_at_call 42; (with_reducible refine (impl_in.calls a0_3 1 t168 true _ A145.out).mono ?_); rintro e w' ⟨rfl, ⟨nd, rfl⟩⟩) | (go_at_call 44; (with_reducible refine (impl_isWord.calls a0_2 false _ A148.out).mono ?_); rintro e w' ⟨rfl, ⟨nd, rfl⟩⟩))
      go_ret
      exact ⟨by first | rfl | (simp [errW_none, errW_some] <;> rfl) | (simp [*, errW_none, errW_some] <;> rfl), bS HB.out⟩
     subst c149
     rw [if_pos rfl] at H
     (try dsimp only at H)
     obtain rfl := Option.some.inj H
     have hnb150 := NB171_161.out
     have hnc150 := NB161_171.out
     have hnb151 := NB171_170.out
     have hnc151 := NB170_171.out
     obtain ⟨hcz152_0, hfz152_0, hcz152_1, hfz152_1⟩ := bk2 BK171.out
     have hnb153 := NB161_170.out
     have hnc153 := NB170_161.out
     obtain ⟨hcz154_0, hfz154_0, hcz154_1, hfz154_1, hcz154_2, hfz154_2, hcz154_3, hfz154_3, hcz154_4, hfz154_4, hcz154_5, hfz154_5⟩ := bk6 BK161.out
     go_wp2_with (first | (go_at_call 42; (with_reducible refine (impl_in.calls a0_3 1 t168 true _ A145.out).mono ?_); rintro e w' ⟨rfl, ⟨nd, rfl⟩⟩) | (go_at_call 44; (with_reducible refine (impl_isWord.calls a0_2 true _ A148.out).mono ?_); rintro e w' ⟨rfl, ⟨nd, rfl⟩⟩))
     go_ret
     exact ⟨by first | rfl | (simp [errW_none, errW_some] <;> rfl) | (simp [*, errW_none, errW_some] <;> rfl), bS HB.out⟩
    rw [if_pos c40] at H
    have c40b0 : decide (1 < t167) = true := decide_eq_true c40
    clear c40
    by_cases c41 : ((l0_5.length : Int) % 8) = 0
    rotate_left
    ·rw [if_neg c41] at H
     have c41b0 : (((l0_5.length : Int) % 8) == 0) = false := beq_eq_false_iff_ne.mpr c41
     have c41b1 : (((l0_5.length : Int) % 8) != 0) = true := bne_iff_ne.mpr c41
     obtain rfl := Option.some.inj H
     have hnb137 := NB171_161.out
     have hnc137 := NB161_171.out
     have hnb138 := NB171_170.out
     have hnc138 := NB170_171.out
     obtain ⟨hcz139_0, hfz139_0, hcz139_1, hfz139_1⟩ := bk2 BK171.out
     have hnb140 := NB161_170.out
     have hnc140 := NB170_161.out
     obtain ⟨hcz141_0, hfz141_0, hcz141_1, hfz141_1, hcz141_2, hfz141_2, hcz141_3, hfz141_3, hcz141_4, hfz141_4, hcz141_5, hfz141_5⟩ := bk6 BK161.out
     go_wp2
     go_ret
     exact ⟨by first | rfl | (simp [errW_none, errW_some] <;> rfl) | (simp [*, errW_none, errW_some] <;> rfl), bS HB.out⟩
    rw [if_pos c41] at H
    have c41b0 : (((l0_5.length : Int) % 8) == 0) = true := beq_iff_eq.mpr c41
    have c41b1 : (((l0_5.length : Int) % 8) != 0) = false := bne_eq_false_iff_eq.mpr c41
    clear c41
    by_cases c42 : t168 = 0
    rotate_left
    ·rw [if_neg c42] at H
     have c42b0 : (t168 == 0) = false := beq_eq_false_iff_ne.mpr c42
     have c42b1 : (t168 != 0) = true := bne_iff_ne.mpr c42
     by_cases c93 : t168 > 0
     rotate_left
     ·rw [if_neg c93] at H
      have c93b0 : decide (0 < t168) = false := decide_eq_false c93
      clear c93
      by_cases c119 : t169 = true
      rotate_left
      ·replace c119 := Bool.eq_false_iff.mpr c119
       subst c119
       rw [if_neg (show ¬ (false = true) by decide)] at H
       (try dsimp only at H)
       obtain rfl := Option.some.inj H
       have hnb132 := NB171_161.out
       have hnc132 := NB161_171.out
       have hnb133 := NB171_170.out
       have hnc133 := NB170_171.out
       obtain ⟨hcz134_0, hfz134_0, hcz134_1, hfz134_1⟩ := bk2 BK171.out
       have hnb135 := NB161_170.out
       have hnc135 := NB170_161.out
       obtain ⟨hcz136_0, hfz136_0, hcz136_1, hfz136_1, hcz136_2, hfz136_2, hcz136_3, hfz136_3, hcz136_4, hfz136_4, hcz136_5, hfz136_5⟩ := bk6 BK161.out
       go_wp2
       go_ret
       exact ⟨by first | rfl | (simp [errW_none, errW_some] <;> rfl) | (simp [*, errW_none, errW_some] <;> rfl), bS HB.out⟩
      subst c119
      rw [if_pos rfl] at H
      (try dsimp only at H)
      replace H := Option.bind_eq_some_iff.mp H
      obtain ⟨t180, A1200, H⟩ := H
      (try dsimp only at H)
      have A120 := aM A1200
      clear A1200
      by_cases c121 : t180 = true
      rotate_left
      ·replace c121 := Bool.eq_false_iff.mpr c121
       subst c121
       rw [if_neg (show ¬ (false = true) by decide)] at H
       (try dsimp only at H)
       obtain rfl := Option.some.inj H
       have hnb127 := NB171_161.out
       have hnc127 := NB161_171.out
       have hnb128 := NB171_170.out
       have hnc128 := NB170_171.out
       obtain ⟨hcz129_0, hfz129_0, hcz129_1, hfz129_1⟩ := bk2 BK171.out
       have hnb130 := NB161_170.out
       have hnc130 := NB170_161.out
       obtain ⟨hcz131_0, hfz131_0, hcz131_1, hfz131_1, hcz131_2, hfz131_2, hcz131_3, hfz131_3, hcz131_4, hfz131_4, hcz131_5, hfz131_5⟩ := bk6 BK161.out
       go_wp2_with (first | (go_at_call 44; (with_reducible refine (impl_isWord.calls a0_2 false _ A120.out).mono ?_); rintro e w' ⟨rfl, ⟨nd, rfl⟩⟩))
       go_ret
       exact ⟨by first | rfl | (simp [errW_none, errW_some] <;> rfl) | (simp [*, errW_none, errW_some] <;> rfl), bS HB.out⟩
      subst c121
      rw [if_pos rfl] at H
      (try dsimp only at H)
      obtain rfl := Option.some.inj H
      have hnb122 := NB171_161.out
      have hnc122 := NB161_171.out
      have hnb123 := NB171_170.out
      have hnc123 := NB170_171.out
      obtain ⟨hcz124_0, hfz124_0, hcz124_1, hfz124_1⟩ := bk2 BK171.out
      have hnb125 := NB161_170.out
      have hnc125 := NB170_161.out
      obtain ⟨hcz126_0, hfz126_0, hcz126_1, hfz126_1, hcz126_2, hfz126_2, hcz126_3, hfz126_3, hcz126_4, hfz126_4, hcz126_5, hfz126_5⟩ := bk6 BK161.out
      go_wp2_with (first | (go_at_call 44; (with_reducible refine (impl_isWord.calls a0_2 true _ A120.out).mono ?_); rintro e w' ⟨rfl, ⟨nd, rfl⟩⟩))
      go_ret
      exact ⟨by first | rfl | (simp [errW_none, errW_some] <;> rfl) | (simp [*, errW_none, errW_some] <;> rfl), bS HB.out⟩
     rw [if_pos c93] at H
     have c93b0 : decide (0 < t168) = true := decide_eq_true c93
     clear c93
     replace H := Option.bind_eq_some_iff.mp H
     obtain ⟨t178, A940, H⟩ := H
     (try dsimp only at H)
     have A94 := aM A940
     clear A940
     by_cases c95 : t178 = true
     rotate_left
     ·replace c95 := Bool.eq_false_iff.mpr c95
      subst c95
      rw [if_neg (show ¬ (false = true) by decide)] at H
      (try dsimp only at H)
      obtain rfl := Option.some.inj H
      have hnb114 := NB171_161.out
      have hnc114 := NB161_171.out
      have hnb115 := NB171_170.out
      have hnc115 := NB170_171.out
      obtain ⟨hcz116_0, hfz116_0, hcz116_1, hfz116_1⟩ := bk2 BK171.out
      have hnb117 := NB161_170.out
      have hnc117 := NB170_161.out
      obtain ⟨hcz118_0, hfz118_0, hcz118_1, hfz118_1, hcz118_2, hfz118_2, hcz118_3, hfz118_3, hcz118_4, hfz118_4, hcz118_5, hfz118_5⟩ := bk6 BK161.out
      go_wp2_with (first | (go_at_call 42; (with_reducible refine (impl_in.calls a0_3 1 t168 false _ A94.out).mono ?_); rintro e w' ⟨rfl, ⟨nd, rfl⟩⟩))
      go_ret
      exact ⟨by first | rfl | (simp [errW_none, errW_some] <;> rfl) | (simp [*, errW_none, errW_some] <;> rfl), bS HB.out⟩
     subst c95
     rw [if_pos rfl] at H
     (try dsimp only at H)
     by_cases c96 : t169 = true
     rotate_left
     ·replace c96 := Bool.eq_false_iff.mpr c96
      subst c96
      rw [if_neg (show ¬ (false = true) by decide)] at H
      (try dsimp only at H)
      obtain rfl := Option.some.inj H
      have hnb109 := NB171_161.out
      have hnc109 := NB161_171.out
      have hnb110 := NB171_170.out
      have hnc110 := NB170_171.out
      obtain ⟨hcz111_0, hfz111_0, hcz111_1, hfz111_1⟩ := bk2 BK171.out
      have hnb112 := NB161_170.out
      have hnc112 := NB170_161.out
      obtain ⟨hcz113_0, hfz113_0, hcz113_1, hfz113_1, hcz113_2, hfz113_2, hcz113_3, hfz113_3, hcz113_4, hfz113_4, hcz113_5, hfz113_5⟩ := bk6 BK161.out
      go_wp2_with (first | (go_at_call 42; (with_reducible refine (impl_in.calls a0_3 1 t168 true _ A94.out).mono ?_); rintro e w' ⟨rfl, ⟨nd, rfl⟩⟩))
      go_ret
      exact ⟨by first | rfl | (simp [errW_none, errW_some] <;> rfl) | (simp [*, errW_none, errW_some] <;> rfl), bS HB.out⟩
     subst c96
     rw [if_pos rfl] at H
     (try dsimp only at H)
     replace H := Option.bind_eq_some_iff.mp H
     obtain ⟨t179, A970, H⟩ := H
     (try dsimp only at H)
     have A97 := aM A970
     clear A970
     by_cases c98 : t179 = true
     rotate_left
     ·replace c98 := Bool.eq_false_iff.mpr c98
      subst c98
      rw [if_neg (show ¬ (false = true) by decide)] at H
      (try dsimp only at H)
      obtain rfl := Option.some.inj H
      have hnb104 := NB171_161.out
      have hnc104 := NB161_171.out
      have hnb105 := NB171_170.out
      have hnc105 := NB170_171.out
      obtain ⟨hcz106_0, hfz106_0, hcz106_1, hfz106_1⟩ := bk2 BK171.out
      have hnb107 := NB161_170.out
      have hnc107 := NB170_161.out
      obtain ⟨hcz108_0, hfz108_0, hcz108_1, hfz108_1, hcz108_2, hfz108_2, hcz108_3, hfz108_3, hcz108_4, hfz108_4, hcz108_5, hfz108_5⟩ := bk6 BK161.out
      go_wp2_with (first | (go_at_call 42; (with_reducible refine (impl_in.calls a0_3 1 t168 true _ A94.out).mono ?_); rintro e w' ⟨rfl, ⟨nd, rfl⟩⟩) | (go_at_call 44; (with_reducible refine (impl_isWord.calls a0_2 false _ A97.out).mono ?_); rintro e w' ⟨rfl, ⟨nd, rfl⟩⟩))
      go_ret
      exact ⟨by first | rfl | (simp [errW_none, errW_some] <;> rfl) | (simp [*, errW_none, errW_some] <;> rfl), bS HB.out⟩
     subst c98
     rw [if_pos rfl] at H
     (try dsimp only at H)
     obtain rfl := Option.some.inj H
     have hnb99 := NB171_161.out
     have hnc99 := NB161_171.out
     have hnb100 := NB171_170.out
     have hnc100 := NB170_171.out
     obtain ⟨hcz101_0, hfz101_0, hcz101_1, hfz101_1⟩ := bk2 BK171.out
     have hnb102 := NB161_170.out
     have hnc102 := NB170_161.out
     obtain ⟨hcz103_0, hfz103_0, hcz103_1, hfz103_1, hcz103_2, hfz103_2, hcz103_3, hfz103_3, hcz103_4, hfz103_4, hcz103_5, hfz103_5⟩ := bk6 BK161.out
     go_wp2_with (first | (go_at_call 42; (with_reducible refine (impl_in.calls a0_3 1 t168 true _ A94.out).mono ?_); rintro e w' ⟨rfl, ⟨nd, rfl⟩⟩) | (go_at_call 44; (with_reducible refine (impl_isWord.calls a0_2 true _ A97.out).mono ?_); rintro e w' ⟨rfl, ⟨nd, rfl⟩⟩))
     go_ret
     exact ⟨by first | rfl | (simp [errW_none, errW_some] <;> rfl) | (simp [*, errW_none, errW_some] <;> rfl), bS HB.out⟩
    rw [if_pos c42] at H
    have c42b0 : (t168 == 0) = true := beq_iff_eq.mpr c42
    have c42b1 : (t168 != 0) = false := bne_eq_false_iff_eq.mpr c42
    clear c42
    by_cases c43 : a0_3 = 0
    rotate_left
    ·rw [if_neg c43] at H
     have c43b0 : (a0_3 == 0) = false := beq_eq_false_iff_ne.mpr c43
     have c43b1 : (a0_3 != 0) = true := bne_iff_ne.mpr c43
     obtain rfl := Option.some.inj H
     have hnb88 := NB171_161.out
     have hnc88 := NB161_171.out
     have hnb89 := NB171_170.out
     have hnc89 := NB170_171.out
     obtain ⟨hcz90_0, hfz90_0, hcz90_1, hfz90_1⟩ := bk2 BK171.out
     have hnb91 := NB161_170.out
     have hnc91 := NB170_161.out
     obtain ⟨hcz92_0, hfz92_0, hcz92_1, hfz92_1, hcz92_2, hfz92_2, hcz92_3, hfz92_3, hcz92_4, hfz92_4, hcz92_5, hfz92_5⟩ := bk6 BK161.out
     go_wp2
     go_ret
     exact ⟨by first | rfl | (simp [errW_none, errW_some] <;> rfl) | (simp [*, errW_none, errW_some] <;> rfl), bS HB.out⟩
    rw [if_pos c43] at H
    have c43b0 : (a0_3 == 0) = true := beq_iff_eq.mpr c43
    have c43b1 : (a0_3 != 0) = false := bne_eq_false_iff_eq.mpr c43
    clear c43
    by_cases c44 : t168 > 0
    rotate_left
    ·rw [if_neg c44] at H
     have c44b0 : decide (0 < t168) = false := decide_eq_false c44
     clear c44
     by_cases c70 : t169 = true
     rotate_left
     ·replace c70 := Bool.eq_false_iff.mpr c70
      subst c70
      rw [if_neg (show ¬ (false = true) by decide)] at H
      (try dsimp only at H)
      obtain rfl := Option.some.inj H
      have hnb83 := NB171_161.out
      have hnc83 := NB161_171.out
      have hnb84 := NB171_170.out
      have hnc84 := NB170_171.out
      obtain ⟨hcz85_0, hfz85_0, hcz85_1, hfz85_1⟩ := bk2 BK171.out
      have hnb86 := NB161_170.out
      have hnc86 := NB170_161.out
      obtain ⟨hcz87_0, hfz87_0, hcz87_1, hfz87_1, hcz87_2, hfz87_2, hcz87_3, hfz87_3, hcz87_4, hfz87_4, hcz87_5, hfz87_5⟩ := bk6 BK161.out
      go_wp2
      go_ret
      exact ⟨by first | rfl | (simp [errW_none, errW_some] <;> rfl) | (simp [*, errW_none, errW_some] <;> rfl), bS HB.out⟩
     subst c70
     rw [if_pos rfl] at H
     (try dsimp only at H)
     replace H := Option.bind_eq_some_iff.mp H
     obtain ⟨t177, A710, H⟩ := H
     (try dsimp only at H)
     have A71 := aM A710
     clear A710
     by_cases c72 : t177 = true
     rotate_left
     ·replace c72 := Bool.eq_false_iff.mpr c72
      subst c72
      rw [if_neg (show ¬ (false = true) by decide)] at H
      (try dsimp only at H)
      obtain rfl := Option.some.inj H
      have hnb78 := NB171_161.out
      have hnc78 := NB161_171.out
      have hnb79 := NB171_170.out
      have hnc79 := NB170_171.out
      obtain ⟨hcz80_0, hfz80_0, hcz80_1, hfz80_1⟩ := bk2 BK171.out
      have hnb81 := NB161_170.out
      have hnc81 := NB170_161.out
      obtain ⟨hcz82_0, hfz82_0, hcz82_1, hfz82_1, hcz82_2, hfz82_2, hcz82_3, hfz82_3, hcz82_4, hfz82_4, hcz82_5, hfz82_5⟩ := bk6 BK161.out
      go_wp2_with (first | (go_at_call 44; (with_reducible refine (impl_isWord.calls a0_2 false _ A71.out).mono ?_); rintro e w' ⟨rfl, ⟨nd, rfl⟩⟩))
      go_ret
      exact ⟨by first | rfl | (simp [errW_none, errW_some] <;> rfl) | (simp [*, errW_none, errW_some] <;> rfl), bS HB.out⟩
     subst c72
     rw [if_pos rfl] at H
     (try dsimp only at H)
     obtain rfl := Option.some.inj H
     have hnb73 := NB171_161.out
     have hnc73 := NB161_171.out
     have hnb74 := NB171_170.out
     have hnc74 := NB170_171.out
     obtain ⟨hcz75_0, hfz75_0, hcz75_1, hfz75_1⟩ := bk2 BK171.out
     have hnb76 := NB161_170.out
     have hnc76 := NB170_161.out
     obtain ⟨hcz77_0, hfz77_0, hcz77_1, hfz77_1, hcz77_2, hfz77_2, hcz77_3, hfz77_3, hcz77_4, hfz77_4, hcz77_5, hfz77_5⟩ := bk6 BK161.out
     go_wp2_with (first | (go_at_call 44; (with_reducible refine (impl_isWord.calls a0_2 true _ A71.out).mono ?_); rintro e w' ⟨rfl, ⟨nd, rfl⟩⟩))
     go_ret
     exact ⟨by first | rfl | (simp [errW_none, errW_some] <;> rfl) | (simp [*, errW_none, errW_some] <;> rfl), bS HB.out⟩
    rw [if_pos c44] at H
    have c44b0 : decide (0 < t168) = true := decide_eq_true c44
    clear c44
    replace H := Option.bind_eq_some_iff.mp H
    obtain ⟨t175, A450, H⟩ := H
    (try dsimp only at H)
    have A45 := aM A450
    clear A450
    by_cases c46 : t175 = true
    rotate_left
    ·replace c46 := Bool.eq_false_iff.mpr c46
     subst c46
     rw [if_neg (show ¬ (false = true) by decide)] at H
     (try dsimp only at H)
     obtain rfl := Option.some.inj H
     have hnb65 := NB171_161.out
     have hnc65 := NB161_171.out
     have hnb66 := NB171_170.out
     have hnc66 := NB170_171.out
     obtain ⟨hcz67_0, hfz67_0, hcz67_1, hfz67_1⟩ := bk2 BK171.out
     have hnb68 := NB161_170.out
     have hnc68 := NB170_161.out
     obtain ⟨hcz69_0, hfz69_0, hcz69_1, hfz69_1, hcz69_2, hfz69_2, hcz69_3, hfz69_3, hcz69_4, hfz69_4, hcz69_5, hfz69_5⟩ := bk6 BK161.out
     go_wp2_with (first | (go_at_call 42; (with_reducible refine (impl_in.calls a0_3 1 t168 false _ A45.out).mono ?_); rintro e w' ⟨rfl, ⟨nd, rfl⟩⟩))
     go_ret
     exact ⟨by first | rfl | (simp [errW_none, errW_some] <;> rfl) | (simp [*, errW_none, errW_some] <;> rfl), bS HB.out⟩
    subst c46
    rw [if_pos rfl] at H
    (try dsimp only at H)
    by_cases c47 : t169 = true
    rotate_left
    ·replace c47 := Bool.eq_false_iff.mpr c47
     subst c47
     rw [if_neg (show ¬ (false = true) by decide)] at H
     (try dsimp only at H)
     obtain rfl := Option.some.inj H
     have hnb60 := NB171_161.out
     have hnc60 := NB161_171.out
     have hnb61 := NB171_170.out
     have hnc61 := NB170_171.out
     obtain ⟨hcz62_0, hfz62_0, hcz62_1, hfz62_1⟩ := bk2 BK171.out
     have hnb63 := NB161_170.out
     have hnc63 := NB170_161.out
     obtain ⟨hcz64_0, hfz64_0, hcz64_1, hfz64_1, hcz64_2, hfz64_2, hcz64_3, hfz64_3, hcz64_4, hfz64_4, hcz64_5, hfz64_5⟩ := bk6 BK161.out
     go_wp2_with (first | (go_at_call 42; (with_reducible refine (impl_in.calls a0_3 1 t168 true _ A45.out).mono ?_); rintro e w' ⟨rfl, ⟨nd, rfl⟩⟩))
     go_ret
     exact ⟨by first | rfl | (simp [errW_none, errW_some] <;> rfl) | (simp [*, errW_none, errW_some] <;> rfl), bS HB.out⟩
    subst c47
    rw [if_pos rfl] at H
    (try dsimp only at H)
    replace H := Option.bind_eq_some_iff.mp H
    obtain ⟨t176, A480, H⟩ := H
    (try dsimp only at H)
    have A48 := aM A480
    clear A480
    by_cases c49 : t176 = true
    rotate_left
    ·replace c49 := Bool.eq_false_iff.mpr c49
     subst c49
     rw [if_neg (show ¬ (false = true) by decide)] at H
     (try dsimp only at H)
     obtain rfl := Option.some.inj H
     have hnb55 := NB171_161.out
     have hnc55 := NB161_171.out
     have hnb56 := NB171_170.out
     have hnc56 := NB170_171.out
     obtain ⟨hcz57_0, hfz57_0, hcz57_1, hfz57_1⟩ := bk2 BK171.out
     have hnb58 := NB161_170.out
     have hnc58 := NB170_161.out
     obtain ⟨hcz59_0, hfz59_0, hcz59_1, hfz59_1, hcz59_2, hfz59_2, hcz59_3, hfz59_3, hcz59_4, hfz59_4, hcz59_5, hfz59_5⟩ := bk6 BK161.out
     go_wp2_with (first | (go_at_call 42; (with_reducible refine (impl_in.calls a0_3 1 t168 true _ A45.out).mono ?_); rintro e w' ⟨rfl, ⟨nd, rfl⟩⟩) | (go_at_call 44; (with_reducible refine (impl_isWord.calls a0_2 false _ A48.out).mono ?_); rintro e w' ⟨rfl, ⟨nd, rfl⟩⟩))
     go_ret
     exact ⟨by first | rfl | (simp [errW_none, errW_some] <;> rfl) | (simp [*, errW_none, errW_some] <;> rfl), bS HB.out⟩
    subst c49
    rw [if_pos rfl] at H
    (try dsimp only at H)
    obtain rfl := Option.some.inj H
    have hnb50 := NB171_161.out
    have hnc50 := NB161_171.out
    have hnb51 := NB171_170.out
    have hnc51 := NB170_171.out
    obtain ⟨hcz52_0, hfz52_0, hcz52_1, hfz52_1⟩ := bk2 BK171.out
    have hnb53 := NB161_170.out
    have hnc53 := NB170_161.out
    obtain ⟨hcz54_0, hfz54_0, hcz54_1, hfz54_1, hcz54_2, hfz54_2, hcz54_3, hfz54_3, hcz54_4, hfz54_4, hcz54_5, hfz54_5⟩ := bk6 BK161.out
    go_wp2_with (first | (go_at_call 42; (with_reducible refine (impl_in.calls a0_3 1 t168 true _ A45.out).mono ?_); rintro e w' ⟨rfl, ⟨nd, rfl⟩⟩) | (go_at_call 44; (with_reducible refine (impl_isWord.calls a0_2 true _ A48.out).mono ?_); rintro e w' ⟨rfl, ⟨nd, rfl⟩⟩))
    go_ret
    exact ⟨by first | rfl | (simp [errW_none, errW_some] <;> rfl) | (simp [*, errW_none, errW_some] <;> rfl), bS HB.out⟩
/-! ### slices_Index_bool_bool: function 82 -/
def slices_Index_bool_bool.l0 : Nat → List Bool → Bool → Int → Int → Option (Int)
 | 0, _, _, _, _ => none
 | k + 1, x0, x1, x7, x8 => if x8 < x7 then (if 0 ≤ x8 then (if x8 < (x0.length : Int) then (if (x1 == (rdOf false x0 x8)) = true then (some x8) else (slices_Index_bool_bool.l0 k x0 x1 x7 (wrap64 (x8 + 1)))) else (none)) else (none)) else (some (-1))
def slices_Index_bool_bool.f (k : Nat) (l0 : List Bool) (a1 : Bool) : Option (Int) := slices_Index_bool_bool.l0 k l0 a1 (l0.length : Int) 0
theorem slices_Index_bool_bool.mono_l : ∀ k, (∀ y0 y1 y2 y3, LeO (slices_Index_bool_bool.l0 k y0 y1 y2 y3) (slices_Index_bool_bool.l0 (k + 1) y0 y1 y2 y3))
 | 0 => fun _ _ _ _ r h => by simp [slices_Index_bool_bool.l0] at h
 | k + 1 => by
  have ih0 := slices_Index_bool_bool.mono_l k
  ·intro y0 y1 y2 y3
   unfold slices_Index_bool_bool.l0
   repeat' first
   | (with_reducible exact ih0 _ _ _ _)
   | (with_reducible exact LeO.refl _)
   | (with_reducible exact LeO.none _)
   | (with_reducible refine LeO.ite ?_ ?_)
   | (with_reducible refine LeO.bind ?_ (fun _ => ?_))
   | exact ih0 _ _ _ _
   | exact LeO.none _
   | refine LeO.ite ?_ ?_
   | refine LeO.bind ?_ (fun _ => ?_)
theorem slices_Index_bool_bool.mono : ∀ a0 a1 k, LeO (slices_Index_bool_bool.f k a0 a1) (slices_Index_bool_bool.f (k + 1) a0 a1) := by
 intro a0 a1 k
 have ih0 := slices_Index_bool_bool.mono_l k
 unfold slices_Index_bool_bool.f
 repeat' first
   | (with_reducible exact ih0 _ _ _ _)
   | (with_reducible exact LeO.refl _)
   | (with_reducible exact LeO.none _)
   | (with_reducible refine LeO.ite ?_ ?_)
   | (with_reducible refine LeO.bind ?_ (fun _ => ?_))
   | exact ih0 _ _ _ _
   | exact LeO.none _
   | refine LeO.ite ?_ ?_
   | refine LeO.bind ?_ (fun _ => ?_)
set_option maxHeartbeats 8000000 in
set_option maxRecDepth 100000 in
theorem slices_Index_bool_bool.calls (k : Nat) (A0 : Option Addr) (c0 : Nat) (l0 : List Bool) (a1 : Bool) (r : Int) (w : World) (hr0 : Kd.C Kd.bool w A0 l0.length l0) (hc0 : l0.length ≤ c0) (h : slices_Index_bool_bool.f k l0 a1 = some r) :
  Calls Try.prog 82 #[.slice A0 l0.length c0, .bool a1] w fun e w' => e = .returned (.int .i64 r) ∧ Drawn0 w w' := by
 have HR0 := aM hr0
 have HC0 := aM hc0
 clear hr0 hc0
 have H : (slices_Index_bool_bool.l0 k l0 a1 (l0.length : Int) 0) = some r := h
 clear h
 have H' := aM H
 clear H
 go_enter Try.func82, Try.ntmps82
 go_wp2
 go_loopg [8] k (fun kq v8 w' => ∃ (x8_1 : Int), v8 = .int .i64 x8_1 ∧ Aside0 (slices_Index_bool_bool.l0 kq l0 a1 (l0.length : Int) x8_1 = some r) ∧ Aside0 (kq ≤ k) ∧ Drawn0 w w')
 case atStart => exact ⟨(0), (by first | rfl | (simp; done) | (simp [*]; done)), H', ⟨Nat.le_refl _⟩, by repeat (first | exact Drawn0.refl _ | apply Drawn0.step)⟩
 case round =>
  clear H'
  try clear p2
  obtain ⟨x8_1, rfl, HA, HK1, ⟨m1, rfl⟩⟩ := hrel
  cases gk with
  | zero => exact absurd HA.out (by simp [slices_Index_bool_bool.l0])
  | succ k1 =>
   have H := HA.out
   clear HA
   simp only [slices_Index_bool_bool.l0] at H
   by_cases c3 : x8_1 < (l0.length : Int)
   rotate_left
   ·rw [if_neg c3] at H
    have c3b0 : decide (x8_1 < (l0.length : Int)) = false := decide_eq_false c3
    clear c3
    obtain rfl := Option.some.inj H
    go_wp2
    go_ret
    exact ⟨by first | rfl | (simp; done) | (simp [*]; done), by repeat (first | exact Drawn0.refl _ | apply Drawn0.step)⟩
   rw [if_pos c3] at H
   have c3b0 : decide (x8_1 < (l0.length : Int)) = true := decide_eq_true c3
   clear c3
   by_cases c4 : 0 ≤ x8_1
   rotate_left
   ·rw [if_neg c4] at H
    exact absurd H (by simp)
   rw [if_pos c4] at H
   have c4b0 : decide (0 ≤ x8_1) = true := decide_eq_true c4
   clear c4
   by_cases c5 : x8_1 < (l0.length : Int)
   rotate_left
   ·rw [if_neg c5] at H
    exact absurd H (by simp)
   rw [if_pos c5] at H
   have c5b0 : decide (x8_1 < (l0.length : Int)) = true := decide_eq_true c5
   clear c5
   by_cases c6 : (a1 == (rdOf false l0 x8_1)) = true
   rotate_left
   ·rw [if_neg c6] at H
    have c6b0 : (a1 == (rdOf false l0 x8_1)) = false := by simpa using c6
    (try (have c6b1 : decide (a1 = (rdOf false l0 x8_1)) = false := by simpa using c6))
    (try (have c6b2 : (a1 == (rdOf false l0 x8_1)) = false := by simpa using c6))
    (try (have c6b3 : ¬ (a1 = (rdOf false l0 x8_1)) := by simpa using c6))
    clear c6
    have H' := aM H
    clear H
    have p187 : 0 ≤ (x8_1 : Int) := of_decide_eq_true (by first | (with_reducible assumption) | assumption)
    have q187 : x8_1 < (l0.length : Int) := of_decide_eq_true (by first | (with_reducible assumption) | assumption)
    obtain ⟨ad187, e187, hx187_0⟩ := Kd.at_bool HR0.out x8_1 p187 q187
    cases e187
    replace p187 := eq_true p187
    replace q187 := eq_true q187
    go_wp2
    go_roundg k1
    case measure => have := HK1.out; omega
    case rel => exact ⟨(wrap64 (x8_1 + 1)), (by first | rfl | (simp; done) | (simp [*]; done)), H', ⟨by have := HK1.out; omega⟩, by repeat (first | exact Drawn0.refl _ | apply Drawn0.step)⟩
   rw [if_pos c6] at H
   have c6b0 : (a1 == (rdOf false l0 x8_1)) = true := c6
   (try (have c6b1 : decide (a1 = (rdOf false l0 x8_1)) = true := by simpa using c6))
   (try (have c6b2 : (a1 == (rdOf false l0 x8_1)) = true := by simpa using c6))
   clear c6
   obtain rfl := Option.some.inj H
   have p187 : 0 ≤ (x8_1 : Int) := of_decide_eq_true (by first | (with_reducible assumption) | assumption)
   have q187 : x8_1 < (l0.length : Int) := of_decide_eq_true (by first | (with_reducible assumption) | assumption)
   obtain ⟨ad187, e187, hx187_0⟩ := Kd.at_bool HR0.out x8_1 p187 q187
   cases e187
   replace p187 := eq_true p187
   replace q187 := eq_true q187
   go_wp2
   go_ret
   exact ⟨by first | rfl | (simp; done) | (simp [*]; done), by repeat (first | exact Drawn0.refl _ | apply Drawn0.step)⟩
/-! ### slices_Contains_bool_bool: function 72 -/
def slices_Contains_bool_bool.f (k : Nat) (l0 : List Bool) (a1 : Bool) : Option (Bool) := (slices_Index_bool_bool.f k l0 a1).bind fun t188 => (some (decide (t188 ≥ 0)))
theorem slices_Contains_bool_bool.mono : ∀ a0 a1 k, LeO (slices_Contains_bool_bool.f k a0 a1) (slices_Contains_bool_bool.f (k + 1) a0 a1) := by
 intro a0 a1 k
 unfold slices_Contains_bool_bool.f
 repeat' first
   | (with_reducible exact slices_Index_bool_bool.mono _ _ _)
   | (with_reducible exact LeO.refl _)
   | (with_reducible exact LeO.none _)
   | (with_reducible refine LeO.ite ?_ ?_)
   | (with_reducible refine LeO.bind ?_ (fun _ => ?_))
   | exact slices_Index_bool_bool.mono _ _ _
   | exact LeO.none _
   | refine LeO.ite ?_ ?_
   | refine LeO.bind ?_ (fun _ => ?_)
set_option maxHeartbeats 8000000 in
set_option maxRecDepth 100000 in
theorem slices_Contains_bool_bool.calls (k : Nat) (A0 : Option Addr) (c0 : Nat) (l0 : List Bool) (a1 : Bool) (r : Bool) (w : World) (hr0 : Kd.C Kd.bool w A0 l0.length l0) (hc0 : l0.length ≤ c0) (h : slices_Contains_bool_bool.f k l0 a1 = some r) :
  Calls Try.prog 72 #[.slice A0 l0.length c0, .bool a1] w fun e w' => e = .returned (.bool r) ∧ Drawn0 w w' := by
 have HR0 := aM hr0
 have HC0 := aM hc0
 clear hr0 hc0
 have H : ((slices_Index_bool_bool.f k l0 a1).bind fun t188 => (some (decide (t188 ≥ 0)))) = some r := h
 clear h
 replace H := Option.bind_eq_some_iff.mp H
 obtain ⟨t188, A30, H⟩ := H
 (try dsimp only at H)
 have A3 := aM A30
 clear A30
 obtain rfl := Option.some.inj H
 go_enter Try.func72, Try.ntmps72
 go_wp2_with (first | ((with_reducible refine gate_callee (f := 82) rfl ?_); refine gL (some 7) rfl rfl Try.func82 (by kernel_rfl) rfl #[.slice A0 l0.length c0, .bool a1] rfl ?_; (with_reducible refine (slices_Index_bool_bool.calls k _ _ l0 a1 t188 _ ?side1 ?side2 A3.out).mono ?_); (case side1 => repeat (first | exact HR0.out | (with_reducible refine Kd.C_alloc ?_ _) | (with_reducible refine Kd.C_drewN ?_ _) | (with_reducible refine Kd.C_drew ?_))); (case side2 => exact HC0.out); rintro e w' ⟨rfl, ⟨nd, rfl⟩⟩; refine ⟨_, rfl, ?_⟩))
 go_ret
 exact ⟨by first | rfl | (simp; done) | (simp [*]; done), by repeat (first | exact Drawn0.refl _ | apply Drawn0.step)⟩
/-! ### impl_bitsSuit: function 56 -/
def impl_bitsSuit.f (k : Nat) (a0 : Int) (l1 : List Bool) : Option (Bool) := if (l1.length : Int) = (wrap64 ((wrap64 (Int.tdiv (wrap64 (a0 + 7)) 8)) * 8)) then (if 0 ≤ a0 then (if a0 ≤ (l1.length : Int) then ((slices_Contains_bool_bool.f k (l1.drop (a0 : Int).toNat) true).bind fun t190 => (some (!t190))) else (none)) else (none)) else (some false)
theorem impl_bitsSuit.mono : ∀ a0 a1 k, LeO (impl_bitsSuit.f k a0 a1) (impl_bitsSuit.f (k + 1) a0 a1) := by
 intro a0 a1 k
 unfold impl_bitsSuit.f
 repeat' first
   | (with_reducible exact slices_Contains_bool_bool.mono _ _ _)
   | (with_reducible exact LeO.refl _)
   | (with_reducible exact LeO.none _)
   | (with_reducible refine LeO.ite ?_ ?_)
   | (with_reducible refine LeO.bind ?_ (fun _ => ?_))
   | exact slices_Contains_bool_bool.mono _ _ _
   | exact LeO.none _
   | refine LeO.ite ?_ ?_
   | refine LeO.bind ?_ (fun _ => ?_)
set_option maxHeartbeats 8000000 in
set_option maxRecDepth 100000 in
theorem impl_bitsSuit.calls (k : Nat) (a0 : Int) (A1 : Option Addr) (c1 : Nat) (l1 : List Bool) (r : Bool) (w : World) (hr1 : Kd.C Kd.bool w A1 l1.length l1) (hc1 : l1.length ≤ c1) (h : impl_bitsSuit.f k a0 l1 = some r) :
  Calls Try.prog 56 #[.int .i64 a0, .slice A1 l1.length c1] w fun e w' => e = .returned (.bool r) ∧ Drawn0 w w' := by
 have HR1 := aM hr1
 have HC1 := aM hc1
 clear hr1 hc1
 have H : (if (l1.length : Int) = (wrap64 ((wrap64 (Int.tdiv (wrap64 (a0 + 7)) 8)) * 8)) then (if 0 ≤ a0 then (if a0 ≤ (l1.length : Int) then ((slices_Contains_bool_bool.f k (l1.drop (a0 : Int).toNat) true).bind fun t190 => (some (!t190))) else (none)) else (none)) else (some false)) = some r := h
 clear h
 by_cases c3 : (l1.length : Int) = (wrap64 ((wrap64 (Int.tdiv (wrap64 (a0 + 7)) 8)) * 8))
 rotate_left
 ·rw [if_neg c3] at H
  have c3b0 : ((l1.length : Int) == (wrap64 ((wrap64 (Int.tdiv (wrap64 (a0 + 7)) 8)) * 8))) = false := beq_eq_false_iff_ne.mpr c3
  have c3b1 : ((l1.length : Int) != (wrap64 ((wrap64 (Int.tdiv (wrap64 (a0 + 7)) 8)) * 8))) = true := bne_iff_ne.mpr c3
  obtain rfl := Option.some.inj H
  go_enter Try.func56, Try.ntmps56
  go_wp2
  go_ret
  exact ⟨by first | rfl | (simp; done) | (simp [*]; done), by repeat (first | exact Drawn0.refl _ | apply Drawn0.step)⟩
 rw [if_pos c3] at H
 have c3b0 : ((l1.length : Int) == (wrap64 ((wrap64 (Int.tdiv (wrap64 (a0 + 7)) 8)) * 8))) = true := beq_iff_eq.mpr c3
 have c3b1 : ((l1.length : Int) != (wrap64 ((wrap64 (Int.tdiv (wrap64 (a0 + 7)) 8)) * 8))) = false := bne_eq_false_iff_eq.mpr c3
 clear c3
 by_cases c4 : 0 ≤ a0
 rotate_left
 ·rw [if_neg c4] at H
  exact absurd H (by simp)
 rw [if_pos c4] at H
 have c4b0 := eq_true c4
 have c4b1 : decide (0 ≤ a0) = true := decide_eq_true c4
 clear c4
 by_cases c5 : a0 ≤ (l1.length : Int)
 rotate_left
 ·rw [if_neg c5] at H
  exact absurd H (by simp)
 rw [if_pos c5] at H
 have c5b0 := eq_true c5
 have c5b1 : decide (a0 ≤ (l1.length : Int)) = true := decide_eq_true c5
 clear c5
 replace H := Option.bind_eq_some_iff.mp H
 obtain ⟨t190, A60, H⟩ := H
 (try dsimp only at H)
 have A6 := aM A60
 clear A60
 obtain rfl := Option.some.inj H
 obtain ⟨i07, hi07, _, hsz7, _⟩ := info_parts info4
 obtain ⟨A7, hcut7, hA7, hC7⟩ := print_drop_of (P := Try.prog) Value.bool false 23 4 .i64 Try.underlying23 hi07 hsz7 A1 c1 l1 a0 (of_decide_eq_true (by first | (with_reducible assumption) | assumption)) (of_decide_eq_true (by first | (with_reducible assumption) | assumption)) HC1.out
 have HR189 := aM (Kd.C_of_reads (h1 := fun _ => rfl) (hA7 _ (Kd.reads_of_C HR1.out)))
 have HC189 := aM hC7
 clear hA7 hC7 hi07 hsz7
 go_enter Try.func56, Try.ntmps56
 go_wp2_with (first | (go_at_call 72; (try rw [← show (l1.drop (a0 : Int).toNat).length = l1.length - (a0 : Int).toNat from List.length_drop]); (with_reducible refine (slices_Contains_bool_bool.calls k _ _ (l1.drop (a0 : Int).toNat) true t190 _ ?side1 ?side2 A6.out).mono ?_); (case side1 => repeat (first | exact HR189.out | (with_reducible refine Kd.C_alloc ?_ _) | (with_reducible refine Kd.C_drewN ?_ _) | (with_reducible refine Kd.C_drew ?_))); (case side2 => exact HC189.out); rintro e w' ⟨rfl, ⟨nd, rfl⟩⟩))
 go_ret
 exact ⟨by first | rfl | (simp; done) | (simp [*]; done), by repeat (first | exact Drawn0.refl _ | apply Drawn0.step)⟩
/-! ### slices_Equal_int_int: function 57 -/
def slices_Equal_int_int.l0 : Nat → List Int → List Int → Int → Int → Option (Bool)
 | 0, _, _, _, _ => none
 | k + 1, x0, x1, x12, x13 => if x13 < x12 then (if 0 ≤ x13 then (if x13 < (x0.length : Int) then (if x13 < (x1.length : Int) then (if (rd x0 x13) = (rd x1 x13) then (slices_Equal_int_int.l0 k x0 x1 x12 (wrap64 (x13 + 1))) else (some false)) else (none)) else (none)) else (none)) else (some true)
def slices_Equal_int_int.f (k : Nat) (l0 : List Int) (l1 : List Int) : Option (Bool) := if (l0.length : Int) = (l1.length : Int) then (slices_Equal_int_int.l0 k l0 l1 (l0.length : Int) 0) else (some false)
theorem slices_Equal_int_int.mono_l : ∀ k, (∀ y0 y1 y2 y3, LeO (slices_Equal_int_int.l0 k y0 y1 y2 y3) (slices_Equal_int_int.l0 (k + 1) y0 y1 y2 y3))
 | 0 => fun _ _ _ _ r h => by simp [slices_Equal_int_int.l0] at h
 | k + 1 => by
  have ih0 := slices_Equal_int_int.mono_l k
  ·intro y0 y1 y2 y3
   unfold slices_Equal_int_int.l0
   repeat' first
   | (with_reducible exact ih0 _ _ _ _)
   | (with_reducible exact LeO.refl _)
   | (with_reducible exact LeO.none _)
   | (with_reducible refine LeO.ite ?_ ?_)
   | (with_reducible refine LeO.bind ?_ (fun _ => ?_))
   | exact ih0 _ _ _ _
   | exact LeO.none _
   | refine LeO.ite ?_ ?_
   | refine LeO.bind ?_ (fun _ => ?_)
theorem slices_Equal_int_int.mono : ∀ a0 a1 k, LeO (slices_Equal_int_int.f k a0 a1) (slices_Equal_int_int.f (k + 1) a0 a1) := by
 intro a0 a1 k
 have ih0 := slices_Equal_int_int.mono_l k
 unfold slices_Equal_int_int.f
 repeat' first
   | (with_reducible exact ih0 _ _ _ _)
   | (with_reducible exact LeO.refl _)
   | (with_reducible exact LeO.none _)
   | (with_reducible refine LeO.ite ?_ ?_)
   | (with_reducible refine LeO.bind ?_ (fun _ => ?_))
   | exact ih0 _ _ _ _
   | exact LeO.none _
   | refine LeO.ite ?_ ?_
   | refine LeO.bind ?_ (fun _ => ?_)
set_option maxHeartbeats 8000000 in
set_option maxRecDepth 100000 in
theorem slices_Equal_int_int.calls (k : Nat) (A0 : Option Addr) (c0 : Nat) (l0 : List Int) (A1 : Option Addr) (c1 : Nat) (l1 : List Int) (r : Bool) (w : World) (hr0 : Kd.C (Kd.int .i64) w A0 l0.length l0) (hc0 : l0.length ≤ c0) (hr1 : Kd.C (Kd.int .i64) w A1 l1.length l1) (hc1 : l1.length ≤ c1) (h : slices_Equal_int_int.f k l0 l1 = some r) :
  Calls Try.prog 57 #[.slice A0 l0.length c0, .slice A1 l1.length c1] w fun e w' => e = .returned (.bool r) ∧ Drawn0 w w' := by
 have HR0 := aM hr0
 have HC0 := aM hc0
 clear hr0 hc0
 have HR1 := aM hr1
 have HC1 := aM hc1
 clear hr1 hc1
 have H : (if (l0.length : Int) = (l1.length : Int) then (slices_Equal_int_int.l0 k l0 l1 (l0.length : Int) 0) else (some false)) = some r := h
 clear h
 by_cases c3 : (l0.length : Int) = (l1.length : Int)
 rotate_left
 ·rw [if_neg c3] at H
  have c3b0 : ((l0.length : Int) == (l1.length : Int)) = false := beq_eq_false_iff_ne.mpr c3
  have c3b1 : ((l0.length : Int) != (l1.length : Int)) = true := bne_iff_ne.mpr c3
  have c3b2 : (l0.length == l1.length) = false := by first | simpa using c3 | (simp at c3 ⊢; omega)
  obtain rfl := Option.some.inj H
  go_enter Try.func57, Try.ntmps57
  go_wp2
  repeat (go_quiet (fail); try go_wp2)
  go_ret
  exact ⟨by first | rfl | (simp; done) | (simp [*]; done), by repeat (first | exact Drawn0.refl _ | apply Drawn0.step)⟩
 rw [if_pos c3] at H
 have c3b0 : ((l0.length : Int) == (l1.length : Int)) = true := beq_iff_eq.mpr c3
 have c3b1 : ((l0.length : Int) != (l1.length : Int)) = false := bne_eq_false_iff_eq.mpr c3
 have c3b2 : (l0.length == l1.length) = true := by first | simpa using c3 | (simp at c3 ⊢; omega)
 clear c3
 have H' := aM H
 clear H
 go_enter Try.func57, Try.ntmps57
 go_wp2
 repeat (go_quiet (fail); try go_wp2)
 go_loopg [13] k (fun kq v13 w' => ∃ (x13_1 : Int), v13 = .int .i64 x13_1 ∧ Aside0 (slices_Equal_int_int.l0 kq l0 l1 (l0.length : Int) x13_1 = some r) ∧ Aside0 (kq ≤ k) ∧ Drawn0 w w')
 case atStart => exact ⟨(0), (by first | rfl | (simp; done) | (simp [*]; done)), H', ⟨Nat.le_refl _⟩, by repeat (first | exact Drawn0.refl _ | apply Drawn0.step)⟩
 case round =>
  clear H'
  try clear c1
  try clear p2
  try clear c3
  try clear c3b0
  try clear c3b1
  try clear c3b2
  obtain ⟨x13_1, rfl, HA, HK1, ⟨m1, rfl⟩⟩ := hrel
  cases gk with
  | zero => exact absurd HA.out (by simp [slices_Equal_int_int.l0])
  | succ k1 =>
   have H := HA.out
   clear HA
   simp only [slices_Equal_int_int.l0] at H
   by_cases c4 : x13_1 < (l0.length : Int)
   rotate_left
   ·rw [if_neg c4] at H
    have c4b0 : decide (x13_1 < (l0.length : Int)) = false := decide_eq_false c4
    clear c4
    obtain rfl := Option.some.inj H
    go_wp2
    repeat (go_quiet (fail); try go_wp2)
    go_ret
    exact ⟨by first | rfl | (simp; done) | (simp [*]; done), by repeat (first | exact Drawn0.refl _ | apply Drawn0.step)⟩
   rw [if_pos c4] at H
   have c4b0 : decide (x13_1 < (l0.length : Int)) = true := decide_eq_true c4
   clear c4
   by_cases c5 : 0 ≤ x13_1
   rotate_left
   ·rw [if_neg c5] at H
    exact absurd H (by simp)
   rw [if_pos c5] at H
   have c5b0 : decide (0 ≤ x13_1) = true := decide_eq_true c5
   clear c5
   by_cases c6 : x13_1 < (l0.length : Int)
   rotate_left
   ·rw [if_neg c6] at H
    exact absurd H (by simp)
   rw [if_pos c6] at H
   have c6b0 : decide (x13_1 < (l0.length : Int)) = true := decide_eq_true c6
   clear c6
   by_cases c7 : x13_1 < (l1.length : Int)
   rotate_left
   ·rw [if_neg c7] at H
    exact absurd H (by simp)
   rw [if_pos c7] at H
   have c7b0 : decide (x13_1 < (l1.length : Int)) = true := decide_eq_true c7
   clear c7
   by_cases c8 : (rd l0 x13_1) = (rd l1 x13_1)
   rotate_left
   ·rw [if_neg c8] at H
    have c8b0 : ((rd l0 x13_1) == (rd l1 x13_1)) = false := beq_eq_false_iff_ne.mpr c8
    have c8b1 : ((rd l0 x13_1) != (rd l1 x13_1)) = true := bne_iff_ne.mpr c8
    obtain rfl := Option.some.inj H
    have p191 : 0 ≤ (x13_1 : Int) := of_decide_eq_true (by first | (with_reducible assumption) | assumption)
    have q191 : x13_1 < (l0.length : Int) := of_decide_eq_true (by first | (with_reducible assumption) | assumption)
    obtain ⟨ad191, e191, hx191_0⟩ := Kd.at_int HR0.out x13_1 p191 q191
    cases e191
    replace p191 := eq_true p191
    replace q191 := eq_true q191
    have p192 : 0 ≤ (x13_1 : Int) := of_decide_eq_true (by first | (with_reducible assumption) | assumption)
    have q192 : x13_1 < (l1.length : Int) := of_decide_eq_true (by first | (with_reducible assumption) | assumption)
    obtain ⟨ad192, e192, hx192_0⟩ := Kd.at_int HR1.out x13_1 p192 q192
    cases e192
    replace p192 := eq_true p192
    replace q192 := eq_true q192
    go_wp2
    repeat (go_quiet (fail); try go_wp2)
    go_ret
    exact ⟨by first | rfl | (simp; done) | (simp [*]; done), by repeat (first | exact Drawn0.refl _ | apply Drawn0.step)⟩
   rw [if_pos c8] at H
   have c8b0 : ((rd l0 x13_1) == (rd l1 x13_1)) = true := beq_iff_eq.mpr c8
   have c8b1 : ((rd l0 x13_1) != (rd l1 x13_1)) = false := bne_eq_false_iff_eq.mpr c8
   clear c8
   have H' := aM H
   clear H
   have p191 : 0 ≤ (x13_1 : Int) := of_decide_eq_true (by first | (with_reducible assumption) | assumption)
   have q191 : x13_1 < (l0.length : Int) := of_decide_eq_true (by first | (with_reducible assumption) | assumption)
   obtain ⟨ad191, e191, hx191_0⟩ := Kd.at_int HR0.out x13_1 p191 q191
   cases e191
   replace p191 := eq_true p191
   replace q191 := eq_true q191
   have p192 : 0 ≤ (x13_1 : Int) := of_decide_eq_true (by first | (with_reducible assumption) | assumption)
   have q192 : x13_1 < (l1.length : Int) := of_decide_eq_true (by first | (with_reducible assumption) | assumption)
   obtain ⟨ad192, e192, hx192_0⟩ := Kd.at_int HR1.out x13_1 p192 q192
   cases e192
   replace p192 := eq_true p192
   replace q192 := eq_true q192
   go_wp2
   repeat (go_quiet (fail); try go_wp2)
   go_roundg k1
   case measure => have := HK1.out; omega
   case rel => exact ⟨(wrap64 (x13_1 + 1)), (by first | rfl | (simp; done) | (simp [*]; done)), H', ⟨by have := HK1.out; omega⟩, by repeat (first | exact Drawn0.refl _ | apply Drawn0.step)⟩
/-! ### slices_Equal_bool_bool: function 58 -/
def slices_Equal_bool_bool.l0 : Nat → List Bool → List Bool → Int → Int → Option (Bool)
 | 0, _, _, _, _ => none
 | k + 1, x0, x1, x12, x13 => if x13 < x12 then (if 0 ≤ x13 then (if x13 < (x0.length : Int) then (if x13 < (x1.length : Int) then (if ((rdOf false x0 x13) != (rdOf false x1 x13)) = true then (some false) else (slices_Equal_bool_bool.l0 k x0 x1 x12 (wrap64 (x13 + 1)))) else (none)) else (none)) else (none)) else (some true)
def slices_Equal_bool_bool.f (k : Nat) (l0 : List Bool) (l1 : List Bool) : Option (Bool) := if (l0.length : Int) = (l1.length : Int) then (slices_Equal_bool_bool.l0 k l0 l1 (l0.length : Int) 0) else (some false)
theorem slices_Equal_bool_bool.mono_l : ∀ k, (∀ y0 y1 y2 y3, LeO (slices_Equal_bool_bool.l0 k y0 y1 y2 y3) (slices_Equal_bool_bool.l0 (k + 1) y0 y1 y2 y3))
 | 0 => fun _ _ _ _ r h => by simp [slices_Equal_bool_bool.l0] at h
 | k + 1 => by
  have ih0 := slices_Equal_bool_bool.mono_l k
  ·intro y0 y1 y2 y3
   unfold slices_Equal_bool_bool.l0
   repeat' first
   | (with_reducible exact ih0 _ _ _ _)
   | (with_reducible exact LeO.refl _)
   | (with_reducible exact LeO.none _)
   | (with_reducible refine LeO.ite ?_ ?_)
   | (with_reducible refine LeO.bind ?_ (fun _ => ?_))
   | exact ih0 _ _ _ _
   | exact LeO.none _
   | refine LeO.ite ?_ ?_
   | refine LeO.bind ?_ (fun _ => ?_)
theorem slices_Equal_bool_bool.mono : ∀ a0 a1 k, LeO (slices_Equal_bool_bool.f k a0 a1) (slices_Equal_bool_bool.f (k + 1) a0 a1) := by
 intro a0 a1 k
 have ih0 := slices_Equal_bool_bool.mono_l k
 unfold slices_Equal_bool_bool.f
 repeat' first
   | (with_reducible exact ih0 _ _ _ _)
   | (with_reducible exact LeO.refl _)
   | (with_reducible exact LeO.none _)
   | (with_reducible refine LeO.ite ?_ ?_)
   | (with_reducible refine LeO.bind ?_ (fun _ => ?_))
   | exact ih0 _ _ _ _
   | exact LeO.none _
   | refine LeO.ite ?_ ?_
   | refine LeO.bind ?_ (fun _ => ?_)
set_option maxHeartbeats 8000000 in
set_option maxRecDepth 100000 in
theorem slices_Equal_bool_bool.calls (k : Nat) (A0 : Option Addr) (c0 : Nat) (l0 : List Bool) (A1 : Option Addr) (c1 : Nat) (l1 : List Bool) (r : Bool) (w : World) (hr0 : Kd.C Kd.bool w A0 l0.length l0) (hc0 : l0.length ≤ c0) (hr1 : Kd.C Kd.bool w A1 l1.length l1) (hc1 : l1.length ≤ c1) (h : slices_Equal_bool_bool.f k l0 l1 = some r) :
  Calls Try.prog 58 #[.slice A0 l0.length c0, .slice A1 l1.length c1] w fun e w' => e = .returned (.bool r) ∧ Drawn0 w w' := by
 have HR0 := aM hr0
 have HC0 := aM hc0
 clear hr0 hc0
 have HR1 := aM hr1
 have HC1 := aM hc1
 clear hr1 hc1
 have H : (if (l0.length : Int) = (l1.length : Int) then (slices_Equal_bool_bool.l0 k l0 l1 (l0.length : Int) 0) else (some false)) = some r := h
 clear h
 by_cases c3 : (l0.length : Int) = (l1.length : Int)
 rotate_left
 ·rw [if_neg c3] at H
  have c3b0 : ((l0.length : Int) == (l1.length : Int)) = false := beq_eq_false_iff_ne.mpr c3
  have c3b1 : ((l0.length : Int) != (l1.length : Int)) = true := bne_iff_ne.mpr c3
  have c3b2 : (l0.length == l1.length) = false := by first | simpa using c3 | (simp at c3 ⊢; omega)
  obtain rfl := Option.some.inj H
  go_enter Try.func58, Try.ntmps58
  go_wp2
  repeat (go_quiet (fail); try go_wp2)
  go_ret
  exact ⟨by first | rfl | (simp; done) | (simp [*]; done), by repeat (first | exact Drawn0.refl _ | apply Drawn0.step)⟩
 rw [if_pos c3] at H
 have c3b0 : ((l0.length : Int) == (l1.length : Int)) = true := beq_iff_eq.mpr c3
 have c3b1 : ((l0.length : Int) != (l1.length : Int)) = false := bne_eq_false_iff_eq.mpr c3
 have c3b2 : (l0.length == l1.length) = true := by first | simpa using c3 | (simp at c3 ⊢; omega)
 clear c3
 have H' := aM H
 clear H
 go_enter Try.func58, Try.ntmps58
 go_wp2
 repeat (go_quiet (fail); try go_wp2)
 go_loopg [13] k (fun kq v13 w' => ∃ (x13_1 : Int), v13 = .int .i64 x13_1 ∧ Aside0 (slices_Equal_bool_bool.l0 kq l0 l1 (l0.length : Int) x13_1 = some r) ∧ Aside0 (kq ≤ k) ∧ Drawn0 w w')
 case atStart => exact ⟨(0), (by first | rfl | (simp; done) | (simp [*]; done)), H', ⟨Nat.le_refl _⟩, by repeat (first | exact Drawn0.refl _ | apply Drawn0.step)⟩
 case round =>
  clear H'
  try clear c1
  try clear p2
  try clear c3
  try clear c3b0
  try clear c3b1
  try clear c3b2
  obtain ⟨x13_1, rfl, HA, HK1, ⟨m1, rfl⟩⟩ := hrel
  cases gk with
  | zero => exact absurd HA.out (by simp [slices_Equal_bool_bool.l0])
  | succ k1 =>
   have H := HA.out
   clear HA
   simp only [slices_Equal_bool_bool.l0] at H
   by_cases c4 : x13_1 < (l0.length : Int)
   rotate_left
   ·rw [if_neg c4] at H
    have c4b0 : decide (x13_1 < (l0.length : Int)) = false := decide_eq_false c4
    clear c4
    obtain rfl := Option.some.inj H
    go_wp2
    repeat (go_quiet (fail); try go_wp2)
    go_ret
    exact ⟨by first | rfl | (simp; done) | (simp [*]; done), by repeat (first | exact Drawn0.refl _ | apply Drawn0.step)⟩
   rw [if_pos c4] at H
   have c4b0 : decide (x13_1 < (l0.length : Int)) = true := decide_eq_true c4
   clear c4
   by_cases c5 : 0 ≤ x13_1
   rotate_left
   ·rw [if_neg c5] at H
    exact absurd H (by simp)
   rw [if_pos c5] at H
   have c5b0 : decide (0 ≤ x13_1) = true := decide_eq_true c5
   clear c5
   by_cases c6 : x13_1 < (l0.length : Int)
   rotate_left
   ·rw [if_neg c6] at H
    exact absurd H (by simp)
   rw [if_pos c6] at H
   have c6b0 : decide (x13_1 < (l0.length : Int)) = true := decide_eq_true c6
   clear c6
   by_cases c7 : x13_1 < (l1.length : Int)
   rotate_left
   ·rw [if_neg c7] at H
    exact absurd H (by simp)
   rw [if_pos c7] at H
   have c7b0 : decide (x13_1 < (l1.length : Int)) = true := decide_eq_true c7
   clear c7
   by_cases c8 : ((rdOf false l0 x13_1) != (rdOf false l1 x13_1)) = true
   rotate_left
   ·rw [if_neg c8] at H
    have c8b0 : ((rdOf false l0 x13_1) != (rdOf false l1 x13_1)) = false := by simpa using c8
    (try (have c8b1 : decide ((rdOf false l0 x13_1) = (rdOf false l1 x13_1)) = true := by simpa using c8))
    (try (have c8b2 : ((rdOf false l0 x13_1) == (rdOf false l1 x13_1)) = true := by simpa using c8))
    clear c8
    have H' := aM H
    clear H
    have p193 : 0 ≤ (x13_1 : Int) := of_decide_eq_true (by first | (with_reducible assumption) | assumption)
    have q193 : x13_1 < (l0.length : Int) := of_decide_eq_true (by first | (with_reducible assumption) | assumption)
    obtain ⟨ad193, e193, hx193_0⟩ := Kd.at_bool HR0.out x13_1 p193 q193
    cases e193
    replace p193 := eq_true p193
    replace q193 := eq_true q193
    have p194 : 0 ≤ (x13_1 : Int) := of_decide_eq_true (by first | (with_reducible assumption) | assumption)
    have q194 : x13_1 < (l1.length : Int) := of_decide_eq_true (by first | (with_reducible assumption) | assumption)
    obtain ⟨ad194, e194, hx194_0⟩ := Kd.at_bool HR1.out x13_1 p194 q194
    cases e194
    replace p194 := eq_true p194
    replace q194 := eq_true q194
    go_wp2
    repeat (go_quiet (fail); try go_wp2)
    go_roundg k1
    case measure => have := HK1.out; omega
    case rel => exact ⟨(wrap64 (x13_1 + 1)), (by first | rfl | (simp; done) | (simp [*]; done)), H', ⟨by have := HK1.out; omega⟩, by repeat (first | exact Drawn0.refl _ | apply Drawn0.step)⟩
   rw [if_pos c8] at H
   have c8b0 : ((rdOf false l0 x13_1) != (rdOf false l1 x13_1)) = true := c8
   (try (have c8b1 : decide ((rdOf false l0 x13_1) = (rdOf false l1 x13_1)) = false := by simpa using c8))
   (try (have c8b2 : ((rdOf false l0 x13_1) == (rdOf false l1 x13_1)) = false := by simpa using c8))
   (try (have c8b3 : ¬ ((rdOf false l0 x13_1) = (rdOf false l1 x13_1)) := by simpa using c8))
   clear c8
   obtain rfl := Option.some.inj H
   have p193 : 0 ≤ (x13_1 : Int) := of_decide_eq_true (by first | (with_reducible assumption) | assumption)
   have q193 : x13_1 < (l0.length : Int) := of_decide_eq_true (by first | (with_reducible assumption) | assumption)
   obtain ⟨ad193, e193, hx193_0⟩ := Kd.at_bool HR0.out x13_1 p193 q193
   cases e193
   replace p193 := eq_true p193
   replace q193 := eq_true q193
   have p194 : 0 ≤ (x13_1 : Int) := of_decide_eq_true (by first | (with_reducible assumption) | assumption)
   have q194 : x13_1 < (l1.length : Int) := of_decide_eq_true (by first | (with_reducible assumption) | assumption)
   obtain ⟨ad194, e194, hx194_0⟩ := Kd.at_bool HR1.out x13_1 p194 q194
   cases e194
   replace p194 := eq_true p194
   replace q194 := eq_true q194
   go_wp2
   repeat (go_quiet (fail); try go_wp2)
   go_ret
   exact ⟨by first | rfl | (simp; done) | (simp [*]; done), by repeat (first | exact Drawn0.refl _ | apply Drawn0.step)⟩
/-! ### impl_Suits: function 24 -/
mutual
def impl_Suits.j0 : Nat → Bool → Int → Int → Int → List Int → List Bool → Int → Int → Int → Int → Int → List Int → List Bool → Option (Bool)
 | 0, _, _, _, _, _, _, _, _, _, _, _, _, _ => none
 | k + 1, x19, x196000, x196001, x196002, x196003, x196004, x196005, x197000, x197001, x197002, x197003, x197004, x197005 => if x19 = true then (some false) else (if x197001 = 0 then (if x196000 = 1 then (impl_Suits.j1 k x196000 (x196000 == 1) x196000 x196001 x196002 x196003 x196004 x196005 x197000 x197001 x197002 x197003 x197004 x197005) else (impl_Suits.j1 k x196000 (x196000 == 2) x196000 x196001 x196002 x196003 x196004 x196005 x197000 x197001 x197002 x197003 x197004 x197005)) else (some true))
def impl_Suits.j1 : Nat → Int → Bool → Int → Int → Int → List Int → List Bool → Int → Int → Int → Int → Int → List Int → List Bool → Option (Bool)
 | 0, _, _, _, _, _, _, _, _, _, _, _, _, _, _ => none
 | k + 1, x24, x25, x196000, x196001, x196002, x196003, x196004, x196005, x197000, x197001, x197002, x197003, x197004, x197005 => if x25 = true then ((impl_bitsSuit.f k x196002 x197005).bind fun t199 => (some t199)) else (if x24 = 3 then (impl_Suits.j2 k x24 (x24 == 3) x196000 x196001 x196002 x196003 x196004 x196005 x197000 x197001 x197002 x197003 x197004 x197005) else (if x24 = 4 then (impl_Suits.j2 k x24 (x24 == 4) x196000 x196001 x196002 x196003 x196004 x196005 x197000 x197001 x197002 x197003 x197004 x197005) else (impl_Suits.j2 k x24 (x24 == 23) x196000 x196001 x196002 x196003 x196004 x196005 x197000 x197001 x197002 x197003 x197004 x197005)))
def impl_Suits.j2 : Nat → Int → Bool → Int → Int → Int → List Int → List Bool → Int → Int → Int → Int → Int → List Int → List Bool → Option (Bool)
 | 0, _, _, _, _, _, _, _, _, _, _, _, _, _, _ => none
 | k + 1, x24, x33, x196000, x196001, x196002, x196003, x196004, x196005, x197000, x197001, x197002, x197003, x197004, x197005 => if x33 = true then (some ((x197004.length : Int) == x196002)) else (if x24 = 15 then (impl_Suits.j3 k (x24 == 15) x196000 x196001 x196002 x196003 x196004 x196005 x197000 x197001 x197002 x197003 x197004 x197005) else (impl_Suits.j3 k (x24 == 16) x196000 x196001 x196002 x196003 x196004 x196005 x197000 x197001 x197002 x197003 x197004 x197005))
def impl_Suits.j3 : Nat → Bool → Int → Int → Int → List Int → List Bool → Int → Int → Int → Int → Int → List Int → List Bool → Option (Bool)
 | 0, _, _, _, _, _, _, _, _, _, _, _, _, _ => none
 | k + 1, x43, x196000, x196001, x196002, x196003, x196004, x196005, x197000, x197001, x197002, x197003, x197004, x197005 => if x43 = true then (if x197002 = x196001 then ((impl_written.f x196000 x196001 x196002 x196003 x196004 x196005).bind fun t200 => (some (x197003 == t200))) else (some false)) else (if x197002 = x196001 then ((slices_Equal_int_int.f k x197004 x196003).bind fun t201 => (if t201 = true then ((slices_Equal_bool_bool.f k x197005 x196004).bind fun t202 => (some t202)) else (some false))) else (some false))
end
def impl_Suits.f (k : Nat) (a0_0 : Int) (a0_1 : Int) (a0_2 : Int) (l0_3 : List Int) (l0_4 : List Bool) (a0_5 : Int) (a1_0 : Int) (a1_1 : Int) (a1_2 : Int) (a1_3 : Int) (l1_4 : List Int) (l1_5 : List Bool) : Option (Bool) := (impl_ReqOk.f k a0_0 a0_1 a0_2 l0_3 l0_4 a0_5).bind fun t197 => (if t197 = true then ((impl_RespOk.f k a1_0 a1_1 a1_2 a1_3 l1_4 l1_5).bind fun t198 => (if t198 = true then (impl_Suits.j0 k (a1_0 != a0_0) a0_0 a0_1 a0_2 l0_3 l0_4 a0_5 a1_0 a1_1 a1_2 a1_3 l1_4 l1_5) else (impl_Suits.j0 k true a0_0 a0_1 a0_2 l0_3 l0_4 a0_5 a1_0 a1_1 a1_2 a1_3 l1_4 l1_5))) else (impl_Suits.j0 k true a0_0 a0_1 a0_2 l0_3 l0_4 a0_5 a1_0 a1_1 a1_2 a1_3 l1_4 l1_5))
theorem impl_Suits.mono_l : ∀ k, (∀ y0 y1 y2 y3 y4 y5 y6 y7 y8 y9 y10 y11 y12, LeO (impl_Suits.j0 k y0 y1 y2 y3 y4 y5 y6 y7 y8 y9 y10 y11 y12) (impl_Suits.j0 (k + 1) y0 y1 y2 y3 y4 y5 y6 y7 y8 y9 y10 y11 y12)) ∧ (∀ y0 y1 y2 y3 y4 y5 y6 y7 y8 y9 y10 y11 y12 y13, LeO (impl_Suits.j1 k y0 y1 y2 y3 y4 y5 y6 y7 y8 y9 y10 y11 y12 y13) (impl_Suits.j1 (k + 1) y0 y1 y2 y3 y4 y5 y6 y7 y8 y9 y10 y11 y12 y13)) ∧ (∀ y0 y1 y2 y3 y4 y5 y6 y7 y8 y9 y10 y11 y12 y13, LeO (impl_Suits.j2 k y0 y1 y2 y3 y4 y5 y6 y7 y8 y9 y10 y11 y12 y13) (impl_Suits.j2 (k + 1) y0 y1 y2 y3 y4 y5 y6 y7 y8 y9 y10 y11 y12 y13)) ∧ (∀ y0 y1 y2 y3 y4 y5 y6 y7 y8 y9 y10 y11 y12, LeO (impl_Suits.j3 k y0 y1 y2 y3 y4 y5 y6 y7 y8 y9 y10 y11 y12) (impl_Suits.j3 (k + 1) y0 y1 y2 y3 y4 y5 y6 y7 y8 y9 y10 y11 y12))
 | 0 => ⟨fun _ _ _ _ _ _ _ _ _ _ _ _ _ r h => by simp [impl_Suits.j0] at h, fun _ _ _ _ _ _ _ _ _ _ _ _ _ _ r h => by simp [impl_Suits.j1] at h, fun _ _ _ _ _ _ _ _ _ _ _ _ _ _ r h => by simp [impl_Suits.j2] at h, fun _ _ _ _ _ _ _ _ _ _ _ _ _ r h => by simp [impl_Suits.j3] at h⟩
 | k + 1 => by
  obtain ⟨ih0, ih1, ih2, ih3⟩ := impl_Suits.mono_l k
  refine ⟨?_, ?_, ?_, ?_⟩
  ·intro y0 y1 y2 y3 y4 y5 y6 y7 y8 y9 y10 y11 y12
   unfold impl_Suits.j0
   repeat' first
   | (with_reducible exact ih0 _ _ _ _ _ _ _ _ _ _ _ _ _)
   | (with_reducible exact ih1 _ _ _ _ _ _ _ _ _ _ _ _ _ _)
   | (with_reducible exact ih2 _ _ _ _ _ _ _ _ _ _ _ _ _ _)
   | (with_reducible exact ih3 _ _ _ _ _ _ _ _ _ _ _ _ _)
   | (with_reducible exact impl_ReqOk.mono _ _ _ _ _ _ _)
   | (with_reducible exact impl_RespOk.mono _ _ _ _ _ _ _)
   | (with_reducible exact impl_bitsSuit.mono _ _ _)
   | (with_reducible exact slices_Equal_bool_bool.mono _ _ _)
   | (with_reducible exact slices_Equal_int_int.mono _ _ _)
   | (with_reducible exact LeO.refl _)
   | (with_reducible exact LeO.none _)
   | (with_reducible refine LeO.ite ?_ ?_)
   | (with_reducible refine LeO.bind ?_ (fun _ => ?_))
   | exact ih0 _ _ _ _ _ _ _ _ _ _ _ _ _
   | exact ih1 _ _ _ _ _ _ _ _ _ _ _ _ _ _
   | exact ih2 _ _ _ _ _ _ _ _ _ _ _ _ _ _
   | exact ih3 _ _ _ _ _ _ _ _ _ _ _ _ _
   | exact impl_ReqOk.mono _ _ _ _ _ _ _
   | exact impl_RespOk.mono _ _ _ _ _ _ _
   | exact impl_bitsSuit.mono _ _ _
   | exact slices_Equal_bool_bool.mono _ _ _
   | exact slices_Equal_int_int.mono _ _ _
   | exact LeO.none _
   | refine LeO.ite ?_ ?_
   | refine LeO.bind ?_ (fun _ => ?_)
  ·intro y0 y1 y2 y3 y4 y5 y6 y7 y8 y9 y10 y11 y12 y13
   unfold impl_Suits.j1
   repeat' first
   | (with_reducible exact ih0 _ _ _ _ _ _ _ _ _ _ _ _ _)
   | (with_reducible exact ih1 _ _ _ _ _ _ _ _ _ _ _ _ _ _)
   | (with_reducible exact ih2 _ _ _ _ _ _ _ _ _ _ _ _ _ _)
   | (with_reducible exact ih3 _ _ _ _ _ _ _ _ _ _ _ _ _)
   | (with_reducible exact impl_ReqOk.mono _ _ _ _ _ _ _)
   | (with_reducible exact impl_RespOk.mono _ _ _ _ _ _ _)
   | (with_reducible exact impl_bitsSuit.mono _ _ _)
   | (with_reducible exact slices_Equal_bool_bool.mono _ _ _)
   | (with_reducible exact slices_Equal_int_int.mono _ _ _)
   | (with_reducible exact LeO.refl _)
   | (with_reducible exact LeO.none _)
   | (with_reducible refine LeO.ite ?_ ?_)
   | (with_reducible refine LeO.bind ?_ (fun _ => ?_))
   | exact ih0 _ _ _ _ _ _ _ _ _ _ _ _ _
   | exact ih1 _ _ _ _ _ _ _ _ _ _ _ _ _ _
   | exact ih2 _ _ _ _ _ _ _ _ _ _ _ _ _ _
   | exact ih3 _ _ _ _ _ _ _ _ _ _ _ _ _
   | exact impl_ReqOk.mono _ _ _ _ _ _ _
   | exact impl_RespOk.mono _ _ _ _ _ _ _
   | exact impl_bitsSuit.mono _ _ _
   | exact slices_Equal_bool_bool.mono _ _ _
   | exact slices_Equal_int_int.mono _ _ _
   | exact LeO.none _
   | refine LeO.ite ?_ ?_
   | refine LeO.bind ?_ (fun _ => ?_)
  ·intro y0 y1 y2 y3 y4 y5 y6 y7 y8 y9 y10 y11 y12 y13
   unfold impl_Suits.j2
   repeat' first
   | (with_reducible exact ih0 _ _ _ _ _ _ _ _ _ _ _ _ _)
   | (with_reducible exact ih1 _ _ _ _ _ _ _ _ _ _ _ _ _ _)
   | (with_reducible exact ih2 _ _ _ _ _ _ _ _ _ _ _ _ _ _)
   | (with_reducible exact ih3 _ _ _ _ _ _ _ _ _ _ _ _ _)
   | (with_reducible exact impl_ReqOk.mono _ _ _ _ _ _ _)
   | (with_reducible exact impl_RespOk.mono _ _ _ _ _ _ _)
   | (with_reducible exact impl_bitsSuit.mono _ _ _)
   | (with_reducible exact slices_Equal_bool_bool.mono _ _ _)
   | (with_reducible exact slices_Equal_int_int.mono _ _ _)
   | (with_reducible exact LeO.refl _)
   | (with_reducible exact LeO.none _)
   | (with_reducible refine LeO.ite ?_ ?_)
   | (with_reducible refine LeO.bind ?_ (fun _ => ?_))
   | exact ih0 _ _ _ _ _ _ _ _ _ _ _ _ _
   | exact ih1 _ _ _ _ _ _ _ _ _ _ _ _ _ _
   | exact ih2 _ _ _ _ _ _ _ _ _ _ _ _ _ _
   | exact ih3 _ _ _ _ _ _ _ _ _ _ _ _ _
   | exact impl_ReqOk.mono _ _ _ _ _ _ _
   | exact impl_RespOk.mono _ _ _ _ _ _ _
   | exact impl_bitsSuit.mono _ _ _
   | exact slices_Equal_bool_bool.mono _ _ _
   | exact slices_Equal_int_int.mono _ _ _
   | exact LeO.none _
   | refine LeO.ite ?_ ?_
   | refine LeO.bind ?_ (fun _ => ?_)
  ·intro y0 y1 y2 y3 y4 y5 y6 y7 y8 y9 y10 y11 y12
   unfold impl_Suits.j3
   repeat' first
   | (with_reducible exact ih0 _ _ _ _ _ _ _ _ _ _ _ _ _)
   | (with_reducible exact ih1 _ _ _ _ _ _ _ _ _ _ _ _ _ _)
   | (with_reducible exact ih2 _ _ _ _ _ _ _ _ _ _ _ _ _ _)
   | (with_reducible exact ih3 _ _ _ _ _ _ _ _ _ _ _ _ _)
   | (with_reducible exact impl_ReqOk.mono _ _ _ _ _ _ _)
   | (with_reducible exact impl_RespOk.mono _ _ _ _ _ _ _)
   | (with_reducible exact impl_bitsSuit.mono _ _ _)
   | (with_reducible exact slices_Equal_bool_bool.mono _ _ _)
   | (with_reducible exact slices_Equal_int_int.mono _ _ _)
   | (with_reducible exact LeO.refl _)
   | (with_reducible exact LeO.none _)
   | (with_reducible refine LeO.ite ?_ ?_)
   | (with_reducible refine LeO.bind ?_ (fun _ => ?_))
   | exact ih0 _ _ _ _ _ _ _ _ _ _ _ _ _
   | exact ih1 _ _ _ _ _ _ _ _ _ _ _ _ _ _
   | exact ih2 _ _ _ _ _ _ _ _ _ _ _ _ _ _
   | exact ih3 _ _ _ _ _ _ _ _ _ _ _ _ _
   | exact impl_ReqOk.mono _ _ _ _ _ _ _
   | exact impl_RespOk.mono _ _ _ _ _ _ _
   | exact impl_bitsSuit.mono _ _ _
   | exact slices_Equal_bool_bool.mono _ _ _
   | exact slices_Equal_int_int.mono _ _ _
   | exact LeO.none _
   | refine LeO.ite ?_ ?_
   | refine LeO.bind ?_ (fun _ => ?_)
theorem impl_Suits.mono : ∀ a0 a1 a2 a3 a4 a5 a6 a7 a8 a9 a10 a11 k, LeO (impl_Suits.f k a0 a1 a2 a3 a4 a5 a6 a7 a8 a9 a10 a11) (impl_Suits.f (k + 1) a0 a1 a2 a3 a4 a5 a6 a7 a8 a9 a10 a11) := by
 intro a0 a1 a2 a3 a4 a5 a6 a7 a8 a9 a10 a11 k
 obtain ⟨ih0, ih1, ih2, ih3⟩ := impl_Suits.mono_l k
 unfold impl_Suits.f
 repeat' first
   | (with_reducible exact ih0 _ _ _ _ _ _ _ _ _ _ _ _ _)
   | (with_reducible exact ih1 _ _ _ _ _ _ _ _ _ _ _ _ _ _)
   | (with_reducible exact ih2 _ _ _ _ _ _ _ _ _ _ _ _ _ _)
   | (with_reducible exact ih3 _ _ _ _ _ _ _ _ _ _ _ _ _)
   | (with_reducible exact impl_ReqOk.mono _ _ _ _ _ _ _)
   | (with_reducible exact impl_RespOk.mono _ _ _ _ _ _ _)
   | (with_reducible exact impl_bitsSuit.mono _ _ _)
   | (with_reducible exact slices_Equal_bool_bool.mono _ _ _)
   | (with_reducible exact slices_Equal_int_int.mono _ _ _)
   | (with_reducible exact LeO.refl _)
   | (with_reducible exact LeO.none _)
   | (with_reducible refine LeO.ite ?_ ?_)
   | (with_reducible refine LeO.bind ?_ (fun _ => ?_))
   | exact ih0 _ _ _ _ _ _ _ _ _ _ _ _ _
   | exact ih1 _ _ _ _ _ _ _ _ _ _ _ _ _ _
   | exact ih2 _ _ _ _ _ _ _ _ _ _ _ _ _ _
   | exact ih3 _ _ _ _ _ _ _ _ _ _ _ _ _
   | exact impl_ReqOk.mono _ _ _ _ _ _ _
   | exact impl_RespOk.mono _ _ _ _ _ _ _
   | exact impl_bitsSuit.mono _ _ _
   | exact slices_Equal_bool_bool.mono _ _ _
   | exact slices_Equal_int_int.mono _ _ _
   | exact LeO.none _
   | refine LeO.ite ?_ ?_
   | refine LeO.bind ?_ (fun _ => ?_)
def impl_Suits.T15 : Bool × List (List Nat × List Nat) := (true, [([], []), ([0], [0]), ([], []), ([2], [2]), ([1, 3], [1, 3]), ([4], [4]), ([5], [5]), ([6, 5], [5, 6]), ([5], [5]), ([8, 5, 5], [5, 8]), ([7, 9, 5], [5, 7, 9]), ([5, 10], [5, 10]), ([11, 9, 0, 1, 2, 3, 4, 5, 6, 7, 8, 9, 10, 11], [11])])
def impl_Suits.B15 : List Nat := [0, 1, 0, 4, 15, 31, 63, 127, 63, 319, 1023, 2047, 4095]
theorem impl_Suits.tab15 : rtab .any (opsOf Try.f24 15) = impl_Suits.T15 := by kernel_rfl
theorem impl_Suits.bits15 : waitsOk impl_Suits.T15.2 impl_Suits.B15 = true := by kernel_rfl
set_option maxHeartbeats 8000000 in
set_option maxRecDepth 100000 in
theorem impl_Suits.calls (k : Nat) (a0_0 : Int) (a0_1 : Int) (a0_2 : Int) (A0_3 : Option Addr) (c0_3 : Nat) (l0_3 : List Int) (A0_4 : Option Addr) (c0_4 : Nat) (l0_4 : List Bool) (a0_5 : Int) (a1_0 : Int) (a1_1 : Int) (a1_2 : Int) (a1_3 : Int) (A1_4 : Option Addr) (c1_4 : Nat) (l1_4 : List Int) (A1_5 : Option Addr) (c1_5 : Nat) (l1_5 : List Bool) (r : Bool) (w : World) (hr0_3 : Kd.C (Kd.int .i64) w A0_3 l0_3.length l0_3) (hc0_3 : l0_3.length ≤ c0_3) (hr0_4 : Kd.C Kd.bool w A0_4 l0_4.length l0_4) (hc0_4 : l0_4.length ≤ c0_4) (hr1_4 : Kd.C (Kd.int .i64) w A1_4 l1_4.length l1_4) (hc1_4 : l1_4.length ≤ c1_4) (hr1_5 : Kd.C Kd.bool w A1_5 l1_5.length l1_5) (hc1_5 : l1_5.length ≤ c1_5) (h : impl_Suits.f k a0_0 a0_1 a0_2 l0_3 l0_4 a0_5 a1_0 a1_1 a1_2 a1_3 l1_4 l1_5 = some r) :
  Calls Try.prog 24 #[.agg #[.int .i64 a0_0, .int .i64 a0_1, .int .i64 a0_2, .slice A0_3 l0_3.length c0_3, .slice A0_4 l0_4.length c0_4, .int .i64 a0_5], .agg #[.int .i64 a1_0, .int .i64 a1_1, .int .i64 a1_2, .int .i64 a1_3, .slice A1_4 l1_4.length c1_4, .slice A1_5 l1_5.length c1_5]] w fun e w' => e = .returned (.bool r) ∧ Below w.heap.size w w' := by
 have hu36 := Try.underlying36
 have hu28 := Try.underlying28
 have HR0_3 := aM hr0_3
 have HC0_3 := aM hc0_3
 clear hr0_3 hc0_3
 have HR0_4 := aM hr0_4
 have HC0_4 := aM hc0_4
 clear hr0_4 hc0_4
 have HR1_4 := aM hr1_4
 have HC1_4 := aM hc1_4
 clear hr1_4 hc1_4
 have HR1_5 := aM hr1_5
 have HC1_5 := aM hc1_5
 clear hr1_5 hc1_5
 have HB := aM (Below.refl w.heap.size w)
 have H : ((impl_ReqOk.f k a0_0 a0_1 a0_2 l0_3 l0_4 a0_5).bind fun t197 => (if t197 = true then ((impl_RespOk.f k a1_0 a1_1 a1_2 a1_3 l1_4 l1_5).bind fun t198 => (if t198 = true then (impl_Suits.j0 k (a1_0 != a0_0) a0_0 a0_1 a0_2 l0_3 l0_4 a0_5 a1_0 a1_1 a1_2 a1_3 l1_4 l1_5) else (impl_Suits.j0 k true a0_0 a0_1 a0_2 l0_3 l0_4 a0_5 a1_0 a1_1 a1_2 a1_3 l1_4 l1_5))) else (impl_Suits.j0 k true a0_0 a0_1 a0_2 l0_3 l0_4 a0_5 a1_0 a1_1 a1_2 a1_3 l1_4 l1_5))) = some r := h
 clear h
 have HC3 := aM H
 clear H
 go_enter Try.func24, Try.ntmps24
 go_upto_region 1 with (first | ((with_reducible refine gate_dst (N := 2) rfl ?_); refine box_event ?hg (N := 2) ?hd (cs := #[.int .i64 a0_0, .int .i64 a0_1, .int .i64 a0_2, .slice A0_3 l0_3.length c0_3, .slice A0_4 l0_4.length c0_4, .int .i64 a0_5]) (t := 36) ?hr ?_; (case hd => rfl); (case hg => rfl); (case hr => first | (go_simp; done) | (go_simp; rfl)); intro gb195 hg w4 hbox hb; have _ := aM (below_step (bS HB.out) hb); have _ := aM (hbox); have _ := aM (leG hg (bS HB.out)); have _ := aM (leG hg (bS HB.out)); clear HB; rename_i HB BK195 GW195 GE195; clear hb hbox hg) | ((with_reducible refine gate_dst (N := 3) rfl ?_); refine box_event ?hg (N := 3) ?hd (cs := #[.int .i64 a1_0, .int .i64 a1_1, .int .i64 a1_2, .int .i64 a1_3, .slice A1_4 l1_4.length c1_4, .slice A1_5 l1_5.length c1_5]) (t := 28) ?hr ?_; (case hd => rfl); (case hg => rfl); (case hr => first | (go_simp; done) | (go_simp; rfl)); intro gb196 hg w5 hbox hb; have _ := aM (kB BK195.out hb); have _ := aM (below_step (bS HB.out) hb); have _ := aM (hbox); have _ := aM (leG hg (bS HB.out)); have _ := aM (leG hg (bS HB.out)); have _ := aM (neL hg (kA BK195.out)); have _ := aM (neG hg (kA BK195.out)); clear BK195 HB; rename_i BK195 HB BK196 GW196 GE196 NB195_196 NB196_195; clear hb hbox hg))
 (try simp only [Act.put, List.setIfInBounds_toArray, List.set_cons_zero, List.set_cons_succ])
 go_cut [19] (fun v19 wc => ∃ (kq : Nat) (x19_2 : Bool), v19 = .bool x19_2 ∧ Aside0 (impl_Suits.j0 kq x19_2 a0_0 a0_1 a0_2 l0_3 l0_4 a0_5 a1_0 a1_1 a1_2 a1_3 l1_4 l1_5 = some r) ∧ Aside0 (kq ≤ k) ∧ Aside0 (wc.heap[gb195]? = some (.cells #[.int .i64 a0_0, .int .i64 a0_1, .int .i64 a0_2, (.slice A0_3 l0_3.length c0_3), (.slice A0_4 l0_4.length c0_4), .int .i64 a0_5] 36 (0, 0))) ∧ Aside0 (wc.heap[gb196]? = some (.cells #[.int .i64 a1_0, .int .i64 a1_1, .int .i64 a1_2, .int .i64 a1_3, (.slice A1_4 l1_4.length c1_4), (.slice A1_5 l1_5.length c1_5)] 28 (0, 0))) ∧ Aside0 (Below w.heap.size w wc))
 case first =>
  have H := HC3.out
  clear HC3
  replace H := Option.bind_eq_some_iff.mp H
  obtain ⟨t197, A60, H⟩ := H
  (try dsimp only at H)
  have A6 := aM A60
  clear A60
  by_cases c7 : t197 = true
  rotate_left
  ·replace c7 := Bool.eq_false_iff.mpr c7
   subst c7
   rw [if_neg (show ¬ (false = true) by decide)] at H
   (try dsimp only at H)
   have H' := aM H
   clear H
   have hnb22 := NB195_196.out
   have hnc22 := NB196_195.out
   obtain ⟨hcz23_0, hfz23_0, hcz23_1, hfz23_1, hcz23_2, hfz23_2, hcz23_3, hfz23_3, hcz23_4, hfz23_4, hcz23_5, hfz23_5⟩ := bk6 BK195.out
   go_wp2_with (first | ((with_reducible refine gate_callee (f := 16) rfl ?_); refine gL (some 6) rfl rfl Try.func16 (by kernel_rfl) rfl #[.agg #[.int .i64 a0_0, .int .i64 a0_1, .int .i64 a0_2, .slice A0_3 l0_3.length c0_3, .slice A0_4 l0_4.length c0_4, .int .i64 a0_5]] rfl ?_; (with_reducible refine (impl_ReqOk.calls k a0_0 a0_1 a0_2 _ _ l0_3 _ _ l0_4 a0_5 false _ ?side1 ?side2 ?side3 ?side4 A6.out).mono ?_); (case side1 => exact cB HR0_3.out HB.out); (case side2 => exact HC0_3.out); (case side3 => exact cB HR0_4.out HB.out); (case side4 => exact HC0_4.out); rintro e w24 ⟨rfl, hb⟩; refine ⟨_, rfl, ?_⟩; have _ := aM (kB BK195.out hb); have _ := aM (kB BK196.out hb); have _ := aM (below_step (bS HB.out) hb); clear BK195 BK196 HB; rename_i BK195 BK196 HB; (try clear hb)))
   go_meet
   case rel => exact ⟨_, (true), (by first | rfl | (simp; done) | (simp [*]; done)), H', ⟨by first | omega | exact Nat.le_refl _⟩, ⟨kX BK195.out⟩, ⟨kX BK196.out⟩, ⟨bS HB.out⟩⟩
  subst c7
  rw [if_pos rfl] at H
  (try dsimp only at H)
  replace H := Option.bind_eq_some_iff.mp H
  obtain ⟨t198, A80, H⟩ := H
  (try dsimp only at H)
  have A8 := aM A80
  clear A80
  by_cases c9 : t198 = true
  rotate_left
  ·replace c9 := Bool.eq_false_iff.mpr c9
   subst c9
   rw [if_neg (show ¬ (false = true) by decide)] at H
   (try dsimp only at H)
   have H' := aM H
   clear H
   have hnb17 := NB195_196.out
   have hnc17 := NB196_195.out
   obtain ⟨hcz18_0, hfz18_0, hcz18_1, hfz18_1, hcz18_2, hfz18_2, hcz18_3, hfz18_3, hcz18_4, hfz18_4, hcz18_5, hfz18_5⟩ := bk6 BK195.out
   go_wp2_with (first | ((with_reducible refine gate_callee (f := 16) rfl ?_); refine gL (some 6) rfl rfl Try.func16 (by kernel_rfl) rfl #[.agg #[.int .i64 a0_0, .int .i64 a0_1, .int .i64 a0_2, .slice A0_3 l0_3.length c0_3, .slice A0_4 l0_4.length c0_4, .int .i64 a0_5]] rfl ?_; (with_reducible refine (impl_ReqOk.calls k a0_0 a0_1 a0_2 _ _ l0_3 _ _ l0_4 a0_5 true _ ?side1 ?side2 ?side3 ?side4 A6.out).mono ?_); (case side1 => exact cB HR0_3.out HB.out); (case side2 => exact HC0_3.out); (case side3 => exact cB HR0_4.out HB.out); (case side4 => exact HC0_4.out); rintro e w19 ⟨rfl, hb⟩; refine ⟨_, rfl, ?_⟩; have _ := aM (kB BK195.out hb); have _ := aM (kB BK196.out hb); have _ := aM (below_step (bS HB.out) hb); clear BK195 BK196 HB; rename_i BK195 BK196 HB; (try clear hb); obtain ⟨hcz20_0, hfz20_0, hcz20_1, hfz20_1, hcz20_2, hfz20_2, hcz20_3, hfz20_3, hcz20_4, hfz20_4, hcz20_5, hfz20_5⟩ := bk6 BK196.out) | (go_at_call 11; (with_reducible refine (impl_RespOk.calls k a1_0 a1_1 a1_2 a1_3 _ _ l1_4 _ _ l1_5 false _ ?side1 ?side2 ?side3 ?side4 A8.out).mono ?_); (case side1 => exact cB HR1_4.out HB.out); (case side2 => exact HC1_4.out); (case side3 => exact cB HR1_5.out HB.out); (case side4 => exact HC1_5.out); rintro e w21 ⟨rfl, hb⟩; have _ := aM (kB BK195.out hb); have _ := aM (kB BK196.out hb); have _ := aM (below_step (bS HB.out) hb); clear BK195 BK196 HB; rename_i BK195 BK196 HB; (try clear hb)))
   go_meet
   case rel => exact ⟨_, (true), (by first | rfl | (simp; done) | (simp [*]; done)), H', ⟨by first | omega | exact Nat.le_refl _⟩, ⟨kX BK195.out⟩, ⟨kX BK196.out⟩, ⟨bS HB.out⟩⟩
  subst c9
  rw [if_pos rfl] at H
  (try dsimp only at H)
  have H' := aM H
  clear H
  have hnb10 := NB195_196.out
  have hnc10 := NB196_195.out
  obtain ⟨hcz11_0, hfz11_0, hcz11_1, hfz11_1, hcz11_2, hfz11_2, hcz11_3, hfz11_3, hcz11_4, hfz11_4, hcz11_5, hfz11_5⟩ := bk6 BK195.out
  go_wp2_with (first | ((with_reducible refine gate_callee (f := 16) rfl ?_); refine gL (some 6) rfl rfl Try.func16 (by kernel_rfl) rfl #[.agg #[.int .i64 a0_0, .int .i64 a0_1, .int .i64 a0_2, .slice A0_3 l0_3.length c0_3, .slice A0_4 l0_4.length c0_4, .int .i64 a0_5]] rfl ?_; (with_reducible refine (impl_ReqOk.calls k a0_0 a0_1 a0_2 _ _ l0_3 _ _ l0_4 a0_5 true _ ?side1 ?side2 ?side3 ?side4 A6.out).mono ?_); (case side1 => exact cB HR0_3.out HB.out); (case side2 => exact HC0_3.out); (case side3 => exact cB HR0_4.out HB.out); (case side4 => exact HC0_4.out); rintro e w12 ⟨rfl, hb⟩; refine ⟨_, rfl, ?_⟩; have _ := aM (kB BK195.out hb); have _ := aM (kB BK196.out hb); have _ := aM (below_step (bS HB.out) hb); clear BK195 BK196 HB; rename_i BK195 BK196 HB; (try clear hb); obtain ⟨hcz13_0, hfz13_0, hcz13_1, hfz13_1, hcz13_2, hfz13_2, hcz13_3, hfz13_3, hcz13_4, hfz13_4, hcz13_5, hfz13_5⟩ := bk6 BK196.out) | (go_at_call 11; (with_reducible refine (impl_RespOk.calls k a1_0 a1_1 a1_2 a1_3 _ _ l1_4 _ _ l1_5 true _ ?side1 ?side2 ?side3 ?side4 A8.out).mono ?_); (case side1 => exact cB HR1_4.out HB.out); (case side2 => exact HC1_4.out); (case side3 => exact cB HR1_5.out HB.out); (case side4 => exact HC1_5.out); rintro e w14 ⟨rfl, hb⟩; have _ := aM (kB BK195.out hb); have _ := aM (kB BK196.out hb); have _ := aM (below_step (bS HB.out) hb); clear BK195 BK196 HB; rename_i BK195 BK196 HB; (try clear hb); obtain ⟨hcz15_0, hfz15_0, hcz15_1, hfz15_1, hcz15_2, hfz15_2, hcz15_3, hfz15_3, hcz15_4, hfz15_4, hcz15_5, hfz15_5⟩ := bk6 BK196.out; obtain ⟨hcz16_0, hfz16_0, hcz16_1, hfz16_1, hcz16_2, hfz16_2, hcz16_3, hfz16_3, hcz16_4, hfz16_4, hcz16_5, hfz16_5⟩ := bk6 BK195.out))
  go_meet
  case rel => exact ⟨_, ((a1_0 != a0_0)), (by first | rfl | (simp; done) | (simp [*]; done)), H', ⟨by first | omega | exact Nat.le_refl _⟩, ⟨kX BK195.out⟩, ⟨kX BK196.out⟩, ⟨bS HB.out⟩⟩
 case rest =>
  clear HC3
  obtain ⟨kq, x19_2, rfl, HA, HJ2, BK195, BK196, HB⟩ := hcut
  cases kq with
  | zero => exact absurd HA.out (by simp [impl_Suits.j0])
  | succ kj2 =>
   have H := HA.out
   clear HA
   simp only [impl_Suits.j0] at H
   by_cases c25 : x19_2 = true
   ·subst c25
    rw [if_pos rfl] at H
    (try dsimp only at H)
    obtain rfl := Option.some.inj H
    go_wp2
    go_ret
    exact ⟨by first | rfl | (simp [errW_none, errW_some] <;> rfl) | (simp [*, errW_none, errW_some] <;> rfl), bS HB.out⟩
   ·replace c25 := Bool.eq_false_iff.mpr c25
    subst c25
    rw [if_neg (show ¬ (false = true) by decide)] at H
    (try dsimp only at H)
    by_cases c26 : a1_1 = 0
    rotate_left
    ·rw [if_neg c26] at H
     have c26b0 : (a1_1 == 0) = false := beq_eq_false_iff_ne.mpr c26
     have c26b1 : (a1_1 != 0) = true := bne_iff_ne.mpr c26
     obtain rfl := Option.some.inj H
     have hnb65 := NB196_195.out
     have hnc65 := NB195_196.out
     obtain ⟨hcz66_0, hfz66_0, hcz66_1, hfz66_1, hcz66_2, hfz66_2, hcz66_3, hfz66_3, hcz66_4, hfz66_4, hcz66_5, hfz66_5⟩ := bk6 BK196.out
     go_wp2
     go_ret
     exact ⟨by first | rfl | (simp [errW_none, errW_some] <;> rfl) | (simp [*, errW_none, errW_some] <;> rfl), bS HB.out⟩
    rw [if_pos c26] at H
    have c26b0 : (a1_1 == 0) = true := beq_iff_eq.mpr c26
    have c26b1 : (a1_1 != 0) = false := bne_eq_false_iff_eq.mpr c26
    clear c26
    have HC27 := aM H
    clear H
    have hnb28 := NB196_195.out
    have hnc28 := NB195_196.out
    obtain ⟨hcz29_0, hfz29_0, hcz29_1, hfz29_1, hcz29_2, hfz29_2, hcz29_3, hfz29_3, hcz29_4, hfz29_4, hcz29_5, hfz29_5⟩ := bk6 BK196.out
    obtain ⟨hcz30_0, hfz30_0, hcz30_1, hfz30_1, hcz30_2, hfz30_2, hcz30_3, hfz30_3, hcz30_4, hfz30_4, hcz30_5, hfz30_5⟩ := bk6 BK195.out
    go_upto_if 25 with (fail)
    go_cut [25] (fun v25 wc => ∃ (kq : Nat) (x25_26 : Bool), v25 = .bool x25_26 ∧ Aside0 (impl_Suits.j1 kq a0_0 x25_26 a0_0 a0_1 a0_2 l0_3 l0_4 a0_5 a1_0 a1_1 a1_2 a1_3 l1_4 l1_5 = some r) ∧ Aside0 (kq ≤ kj2) ∧ Aside0 (wc.heap[gb195]? = some (.cells #[.int .i64 a0_0, .int .i64 a0_1, .int .i64 a0_2, (.slice A0_3 l0_3.length c0_3), (.slice A0_4 l0_4.length c0_4), .int .i64 a0_5] 36 (0, 0))) ∧ Aside0 (wc.heap[gb196]? = some (.cells #[.int .i64 a1_0, .int .i64 a1_1, .int .i64 a1_2, .int .i64 a1_3, (.slice A1_4 l1_4.length c1_4), (.slice A1_5 l1_5.length c1_5)] 28 (0, 0))) ∧ Aside0 (Below w.heap.size w wc))
    case first =>
     have H := HC27.out
     clear HC27
     by_cases c31 : a0_0 = 1
     rotate_left
     ·rw [if_neg c31] at H
      have c31b0 : (a0_0 == 1) = false := beq_eq_false_iff_ne.mpr c31
      have c31b1 : (a0_0 != 1) = true := bne_iff_ne.mpr c31
      (first | rw [c31b0] | (simp only [i64_w, i32_w]; rw [c31b0]) | skip)
      have H' := aM H
      clear H
      go_wp2
      go_meet
      case rel => exact ⟨_, ((a0_0 == 2)), (by first | rfl | (simp; done) | (simp [*]; done)), H', ⟨by have := HJ2.out; first | omega | exact Nat.le_refl _⟩, ⟨kX BK195.out⟩, ⟨kX BK196.out⟩, ⟨bS HB.out⟩⟩
     rw [if_pos c31] at H
     have c31b0 : (a0_0 == 1) = true := beq_iff_eq.mpr c31
     have c31b1 : (a0_0 != 1) = false := bne_eq_false_iff_eq.mpr c31
     clear c31
     (first | rw [c31b0] | (simp only [i64_w, i32_w]; rw [c31b0]) | skip)
     have H' := aM H
     clear H
     go_wp2
     go_meet
     case rel => exact ⟨_, ((a0_0 == 1)), (by first | rfl | (simp; done) | (simp [*]; done)), H', ⟨by have := HJ2.out; first | omega | exact Nat.le_refl _⟩, ⟨kX BK195.out⟩, ⟨kX BK196.out⟩, ⟨bS HB.out⟩⟩
    case rest =>
     clear HC27
     try clear c1
     try clear c2
     try clear p2
     try clear c7
     try clear c9
     try clear c10
     try clear c16
     try clear c17
     try clear c22
     try clear c24
     try clear c25
     try clear c26
     try clear c26b0
     try clear c26b1
     try clear hcz11_0
     try clear hcz11_1
     try clear hcz11_2
     try clear hcz11_3
     try clear hcz11_4
     try clear hcz11_5
     try clear hcz13_0
     try clear hcz13_1
     try clear hcz13_2
     try clear hcz13_3
     try clear hcz13_4
     try clear hcz13_5
     try clear hcz15_0
     try clear hcz15_1
     try clear hcz15_2
     try clear hcz15_3
     try clear hcz15_4
     try clear hcz15_5
     try clear hcz16_0
     try clear hcz16_1
     try clear hcz16_2
     try clear hcz16_3
     try clear hcz16_4
     try clear hcz16_5
     try clear hcz18_0
     try clear hcz18_1
     try clear hcz18_2
     try clear hcz18_3
     try clear hcz18_4
     try clear hcz18_5
     try clear hcz20_0
     try clear hcz20_1
     try clear hcz20_2
     try clear hcz20_3
     try clear hcz20_4
     try clear hcz20_5
     try clear hcz23_0
     try clear hcz23_1
     try clear hcz23_2
     try clear hcz23_3
     try clear hcz23_4
     try clear hcz23_5
     try clear hcz29_0
     try clear hcz29_1
     try clear hcz29_2
     try clear hcz29_3
     try clear hcz29_4
     try clear hcz29_5
     try clear hcz30_0
     try clear hcz30_1
     try clear hcz30_2
     try clear hcz30_3
     try clear hcz30_4
     try clear hcz30_5
     try clear hfz11_0
     try clear hfz11_1
     try clear hfz11_2
     try clear hfz11_3
     try clear hfz11_4
     try clear hfz11_5
     try clear hfz13_0
     try clear hfz13_1
     try clear hfz13_2
     try clear hfz13_3
     try clear hfz13_4
     try clear hfz13_5
     try clear hfz15_0
     try clear hfz15_1
     try clear hfz15_2
     try clear hfz15_3
     try clear hfz15_4
     try clear hfz15_5
     try clear hfz16_0
     try clear hfz16_1
     try clear hfz16_2
     try clear hfz16_3
     try clear hfz16_4
     try clear hfz16_5
     try clear hfz18_0
     try clear hfz18_1
     try clear hfz18_2
     try clear hfz18_3
     try clear hfz18_4
     try clear hfz18_5
     try clear hfz20_0
     try clear hfz20_1
     try clear hfz20_2
     try clear hfz20_3
     try clear hfz20_4
     try clear hfz20_5
     try clear hfz23_0
     try clear hfz23_1
     try clear hfz23_2
     try clear hfz23_3
     try clear hfz23_4
     try clear hfz23_5
     try clear hfz29_0
     try clear hfz29_1
     try clear hfz29_2
     try clear hfz29_3
     try clear hfz29_4
     try clear hfz29_5
     try clear hfz30_0
     try clear hfz30_1
     try clear hfz30_2
     try clear hfz30_3
     try clear hfz30_4
     try clear hfz30_5
     try clear p2
     obtain ⟨kq, x25_26, rfl, HA, HJ26, BK195, BK196, HB⟩ := hcut
     cases kq with
     | zero => exact absurd HA.out (by simp [impl_Suits.j1])
     | succ kj26 =>
      have H := HA.out
      clear HA
      simp only [impl_Suits.j1] at H
      by_cases c32 : x25_26 = true
      ·subst c32
       rw [if_pos rfl] at H
       (try dsimp only at H)
       replace H := Option.bind_eq_some_iff.mp H
       obtain ⟨t199, A330, H⟩ := H
       (try dsimp only at H)
       have A33 := aM A330
       clear A330
       obtain rfl := Option.some.inj H
       have hnb34 := NB195_196.out
       have hnc34 := NB196_195.out
       obtain ⟨hcz35_0, hfz35_0, hcz35_1, hfz35_1, hcz35_2, hfz35_2, hcz35_3, hfz35_3, hcz35_4, hfz35_4, hcz35_5, hfz35_5⟩ := bk6 BK195.out
       obtain ⟨hcz36_0, hfz36_0, hcz36_1, hfz36_1, hcz36_2, hfz36_2, hcz36_3, hfz36_3, hcz36_4, hfz36_4, hcz36_5, hfz36_5⟩ := bk6 BK196.out
       go_wp2_with (first | ((with_reducible refine gate_callee (f := 56) rfl ?_); refine gL (some 32) rfl rfl Try.func56 (by kernel_rfl) rfl #[.int .i64 a0_2, .slice A1_5 l1_5.length c1_5] rfl ?_; (with_reducible refine (impl_bitsSuit.calls kj26 a0_2 _ _ l1_5 t199 _ ?side1 ?side2 A33.out).mono ?_); (case side1 => exact cB HR1_5.out HB.out); (case side2 => exact HC1_5.out); rintro e w' ⟨rfl, ⟨nd, rfl⟩⟩; refine ⟨_, rfl, ?_⟩))
       go_ret
       exact ⟨by first | rfl | (simp [errW_none, errW_some] <;> rfl) | (simp [*, errW_none, errW_some] <;> rfl), bS HB.out⟩
      ·replace c32 := Bool.eq_false_iff.mpr c32
       subst c32
       rw [if_neg (show ¬ (false = true) by decide)] at H
       (try dsimp only at H)
       have HC37 := aM H
       clear H
       go_upto_if 33 with (fail)
       go_cut [33] (fun v33 wc => ∃ (kq : Nat) (x33_36 : Bool), v33 = .bool x33_36 ∧ Aside0 (impl_Suits.j2 kq a0_0 x33_36 a0_0 a0_1 a0_2 l0_3 l0_4 a0_5 a1_0 a1_1 a1_2 a1_3 l1_4 l1_5 = some r) ∧ Aside0 (kq ≤ kj26) ∧ Aside0 (wc.heap[gb195]? = some (.cells #[.int .i64 a0_0, .int .i64 a0_1, .int .i64 a0_2, (.slice A0_3 l0_3.length c0_3), (.slice A0_4 l0_4.length c0_4), .int .i64 a0_5] 36 (0, 0))) ∧ Aside0 (wc.heap[gb196]? = some (.cells #[.int .i64 a1_0, .int .i64 a1_1, .int .i64 a1_2, .int .i64 a1_3, (.slice A1_4 l1_4.length c1_4), (.slice A1_5 l1_5.length c1_5)] 28 (0, 0))) ∧ Aside0 (Below w.heap.size w wc))
       case first =>
        have H := HC37.out
        clear HC37
        by_cases c38 : a0_0 = 3
        ·rw [if_pos c38] at H
         have c38b0 : (a0_0 == 3) = true := beq_iff_eq.mpr c38
         have c38b1 : (a0_0 != 3) = false := bne_eq_false_iff_eq.mpr c38
         clear c38
         (first | rw [c38b0] | (simp only [i64_w, i32_w]; rw [c38b0]) | skip)
         have H' := aM H
         clear H
         go_wp2
         go_meet
         case rel => exact ⟨_, ((a0_0 == 3)), (by first | rfl | (simp; done) | (simp [*]; done)), H', ⟨by have := HJ2.out; have := HJ26.out; first | omega | exact Nat.le_refl _⟩, ⟨kX BK195.out⟩, ⟨kX BK196.out⟩, ⟨bS HB.out⟩⟩
        ·rw [if_neg c38] at H
         have c38b0 : (a0_0 == 3) = false := beq_eq_false_iff_ne.mpr c38
         have c38b1 : (a0_0 != 3) = true := bne_iff_ne.mpr c38
         (first | rw [c38b0] | (simp only [i64_w, i32_w]; rw [c38b0]) | skip)
         by_cases c39 : a0_0 = 4
         rotate_left
         ·rw [if_neg c39] at H
          have c39b0 : (a0_0 == 4) = false := beq_eq_false_iff_ne.mpr c39
          have c39b1 : (a0_0 != 4) = true := bne_iff_ne.mpr c39
          have H' := aM H
          clear H
          go_wp2
          go_meet
          case rel => exact ⟨_, ((a0_0 == 23)), (by first | rfl | (simp; done) | (simp [*]; done)), H', ⟨by have := HJ2.out; have := HJ26.out; first | omega | exact Nat.le_refl _⟩, ⟨kX BK195.out⟩, ⟨kX BK196.out⟩, ⟨bS HB.out⟩⟩
         rw [if_pos c39] at H
         have c39b0 : (a0_0 == 4) = true := beq_iff_eq.mpr c39
         have c39b1 : (a0_0 != 4) = false := bne_eq_false_iff_eq.mpr c39
         clear c39
         have H' := aM H
         clear H
         go_wp2
         go_meet
         case rel => exact ⟨_, ((a0_0 == 4)), (by first | rfl | (simp; done) | (simp [*]; done)), H', ⟨by have := HJ2.out; have := HJ26.out; first | omega | exact Nat.le_refl _⟩, ⟨kX BK195.out⟩, ⟨kX BK196.out⟩, ⟨bS HB.out⟩⟩
       case rest =>
        clear HC37
        try clear c1
        try clear c2
        try clear p2
        try clear c3
        try clear c7
        try clear c9
        try clear c10
        try clear c16
        try clear c17
        try clear c22
        try clear c24
        try clear c25
        try clear c26
        try clear c26b0
        try clear c26b1
        try clear c28
        try clear c31
        try clear c31b0
        try clear c31b1
        try clear c32
        try clear hcz11_0
        try clear hcz11_1
        try clear hcz11_2
        try clear hcz11_3
        try clear hcz11_4
        try clear hcz11_5
        try clear hcz13_0
        try clear hcz13_1
        try clear hcz13_2
        try clear hcz13_3
        try clear hcz13_4
        try clear hcz13_5
        try clear hcz15_0
        try clear hcz15_1
        try clear hcz15_2
        try clear hcz15_3
        try clear hcz15_4
        try clear hcz15_5
        try clear hcz16_0
        try clear hcz16_1
        try clear hcz16_2
        try clear hcz16_3
        try clear hcz16_4
        try clear hcz16_5
        try clear hcz18_0
        try clear hcz18_1
        try clear hcz18_2
        try clear hcz18_3
        try clear hcz18_4
        try clear hcz18_5
        try clear hcz20_0
        try clear hcz20_1
        try clear hcz20_2
        try clear hcz20_3
        try clear hcz20_4
        try clear hcz20_5
        try clear hcz23_0
        try clear hcz23_1
        try clear hcz23_2
        try clear hcz23_3
        try clear hcz23_4
        try clear hcz23_5
        try clear hcz29_0
        try clear hcz29_1
        try clear hcz29_2
        try clear hcz29_3
        try clear hcz29_4
        try clear hcz29_5
        try clear hcz30_0
        try clear hcz30_1
        try clear hcz30_2
        try clear hcz30_3
        try clear hcz30_4
        try clear hcz30_5
        try clear hcz35_0
        try clear hcz35_1
        try clear hcz35_2
        try clear hcz35_3
        try clear hcz35_4
        try clear hcz35_5
        try clear hcz36_0
        try clear hcz36_1
        try clear hcz36_2
        try clear hcz36_3
        try clear hcz36_4
        try clear hcz36_5
        try clear hfz11_0
        try clear hfz11_1
        try clear hfz11_2
        try clear hfz11_3
        try clear hfz11_4
        try clear hfz11_5
        try clear hfz13_0
        try clear hfz13_1
        try clear hfz13_2
        try clear hfz13_3
        try clear hfz13_4
        try clear hfz13_5
        try clear hfz15_0
        try clear hfz15_1
        try clear hfz15_2
        try clear hfz15_3
        try clear hfz15_4
        try clear hfz15_5
        try clear hfz16_0
        try clear hfz16_1
        try clear hfz16_2
        try clear hfz16_3
        try clear hfz16_4
        try clear hfz16_5
        try clear hfz18_0
        try clear hfz18_1
        try clear hfz18_2
        try clear hfz18_3
        try clear hfz18_4
        try clear hfz18_5
        try clear hfz20_0
        try clear hfz20_1
        try clear hfz20_2
        try clear hfz20_3
        try clear hfz20_4
        try clear hfz20_5
        try clear hfz23_0
        try clear hfz23_1
        try clear hfz23_2
        try clear hfz23_3
        try clear hfz23_4
        try clear hfz23_5
        try clear hfz29_0
        try clear hfz29_1
        try clear hfz29_2
        try clear hfz29_3
        try clear hfz29_4
        try clear hfz29_5
        try clear hfz30_0
        try clear hfz30_1
        try clear hfz30_2
        try clear hfz30_3
        try clear hfz30_4
        try clear hfz30_5
        try clear hfz35_0
        try clear hfz35_1
        try clear hfz35_2
        try clear hfz35_3
        try clear hfz35_4
        try clear hfz35_5
        try clear hfz36_0
        try clear hfz36_1
        try clear hfz36_2
        try clear hfz36_3
        try clear hfz36_4
        try clear hfz36_5
        try clear p2
        obtain ⟨kq, x33_36, rfl, HA, HJ36, BK195, BK196, HB⟩ := hcut
        cases kq with
        | zero => exact absurd HA.out (by simp [impl_Suits.j2])
        | succ kj36 =>
         have H := HA.out
         clear HA
         simp only [impl_Suits.j2] at H
         by_cases c40 : x33_36 = true
         ·subst c40
          rw [if_pos rfl] at H
          (try dsimp only at H)
          obtain rfl := Option.some.inj H
          have hnb41 := NB196_195.out
          have hnc41 := NB195_196.out
          obtain ⟨hcz42_0, hfz42_0, hcz42_1, hfz42_1, hcz42_2, hfz42_2, hcz42_3, hfz42_3, hcz42_4, hfz42_4, hcz42_5, hfz42_5⟩ := bk6 BK196.out
          obtain ⟨hcz43_0, hfz43_0, hcz43_1, hfz43_1, hcz43_2, hfz43_2, hcz43_3, hfz43_3, hcz43_4, hfz43_4, hcz43_5, hfz43_5⟩ := bk6 BK195.out
          go_wp2
          go_ret
          exact ⟨by first | rfl | (simp [errW_none, errW_some] <;> rfl) | (simp [*, errW_none, errW_some] <;> rfl), bS HB.out⟩
         ·replace c40 := Bool.eq_false_iff.mpr c40
          subst c40
          rw [if_neg (show ¬ (false = true) by decide)] at H
          (try dsimp only at H)
          have HC44 := aM H
          clear H
          go_upto_if 43 with (fail)
          go_cut [43] (fun v43 wc => ∃ (kq : Nat) (x43_43 : Bool), v43 = .bool x43_43 ∧ Aside0 (impl_Suits.j3 kq x43_43 a0_0 a0_1 a0_2 l0_3 l0_4 a0_5 a1_0 a1_1 a1_2 a1_3 l1_4 l1_5 = some r) ∧ Aside0 (kq ≤ kj36) ∧ Aside0 (wc.heap[gb195]? = some (.cells #[.int .i64 a0_0, .int .i64 a0_1, .int .i64 a0_2, (.slice A0_3 l0_3.length c0_3), (.slice A0_4 l0_4.length c0_4), .int .i64 a0_5] 36 (0, 0))) ∧ Aside0 (wc.heap[gb196]? = some (.cells #[.int .i64 a1_0, .int .i64 a1_1, .int .i64 a1_2, .int .i64 a1_3, (.slice A1_4 l1_4.length c1_4), (.slice A1_5 l1_5.length c1_5)] 28 (0, 0))) ∧ Aside0 (Below w.heap.size w wc))
          case first =>
           have H := HC44.out
           clear HC44
           by_cases c45 : a0_0 = 15
           rotate_left
           ·rw [if_neg c45] at H
            have c45b0 : (a0_0 == 15) = false := beq_eq_false_iff_ne.mpr c45
            have c45b1 : (a0_0 != 15) = true := bne_iff_ne.mpr c45
            (first | rw [c45b0] | (simp only [i64_w, i32_w]; rw [c45b0]) | skip)
            have H' := aM H
            clear H
            go_wp2
            go_meet
            case rel => exact ⟨_, ((a0_0 == 16)), (by first | rfl | (simp; done) | (simp [*]; done)), H', ⟨by have := HJ2.out; have := HJ26.out; have := HJ36.out; first | omega | exact Nat.le_refl _⟩, ⟨kX BK195.out⟩, ⟨kX BK196.out⟩, ⟨bS HB.out⟩⟩
           rw [if_pos c45] at H
           have c45b0 : (a0_0 == 15) = true := beq_iff_eq.mpr c45
           have c45b1 : (a0_0 != 15) = false := bne_eq_false_iff_eq.mpr c45
           clear c45
           (first | rw [c45b0] | (simp only [i64_w, i32_w]; rw [c45b0]) | skip)
           have H' := aM H
           clear H
           go_wp2
           go_meet
           case rel => exact ⟨_, ((a0_0 == 15)), (by first | rfl | (simp; done) | (simp [*]; done)), H', ⟨by have := HJ2.out; have := HJ26.out; have := HJ36.out; first | omega | exact Nat.le_refl _⟩, ⟨kX BK195.out⟩, ⟨kX BK196.out⟩, ⟨bS HB.out⟩⟩
          case rest =>
           clear HC44
           try clear c1
           try clear c2
           try clear p2
           try clear c3
           try clear c5
           try clear c7
           try clear c9
           try clear c10
           try clear c16
           try clear c17
           try clear c22
           try clear c24
           try clear c25
           try clear c26
           try clear c26b0
           try clear c26b1
           try clear c28
           try clear c31
           try clear c31b0
           try clear c31b1
           try clear c32
           try clear c34
           try clear c38
           try clear c38b0
           try clear c38b1
           try clear c39
           try clear c39b0
           try clear c39b1
           try clear c40
           try clear hcz11_0
           try clear hcz11_1
           try clear hcz11_2
           try clear hcz11_3
           try clear hcz11_4
           try clear hcz11_5
           try clear hcz13_0
           try clear hcz13_1
           try clear hcz13_2
           try clear hcz13_3
           try clear hcz13_4
           try clear hcz13_5
           try clear hcz15_0
           try clear hcz15_1
           try clear hcz15_2
           try clear hcz15_3
           try clear hcz15_4
           try clear hcz15_5
           try clear hcz16_0
           try clear hcz16_1
           try clear hcz16_2
           try clear hcz16_3
           try clear hcz16_4
           try clear hcz16_5
           try clear hcz18_0
           try clear hcz18_1
           try clear hcz18_2
           try clear hcz18_3
           try clear hcz18_4
           try clear hcz18_5
           try clear hcz20_0
           try clear hcz20_1
           try clear hcz20_2
           try clear hcz20_3
           try clear hcz20_4
           try clear hcz20_5
           try clear hcz23_0
           try clear hcz23_1
           try clear hcz23_2
           try clear hcz23_3
           try clear hcz23_4
           try clear hcz23_5
           try clear hcz29_0
           try clear hcz29_1
           try clear hcz29_2
           try clear hcz29_3
           try clear hcz29_4
           try clear hcz29_5
           try clear hcz30_0
           try clear hcz30_1
           try clear hcz30_2
           try clear hcz30_3
           try clear hcz30_4
           try clear hcz30_5
           try clear hcz35_0
           try clear hcz35_1
           try clear hcz35_2
           try clear hcz35_3
           try clear hcz35_4
           try clear hcz35_5
           try clear hcz36_0
           try clear hcz36_1
           try clear hcz36_2
           try clear hcz36_3
           try clear hcz36_4
           try clear hcz36_5
           try clear hcz42_0
           try clear hcz42_1
           try clear hcz42_2
           try clear hcz42_3
           try clear hcz42_4
           try clear hcz42_5
           try clear hcz43_0
           try clear hcz43_1
           try clear hcz43_2
           try clear hcz43_3
           try clear hcz43_4
           try clear hcz43_5
           try clear hfz11_0
           try clear hfz11_1
           try clear hfz11_2
           try clear hfz11_3
           try clear hfz11_4
           try clear hfz11_5
           try clear hfz13_0
           try clear hfz13_1
           try clear hfz13_2
           try clear hfz13_3
           try clear hfz13_4
           try clear hfz13_5
           try clear hfz15_0
           try clear hfz15_1
           try clear hfz15_2
           try clear hfz15_3
           try clear hfz15_4
           try clear hfz15_5
           try clear hfz16_0
           try clear hfz16_1
           try clear hfz16_2
           try clear hfz16_3
           try clear hfz16_4
           try clear hfz16_5
           try clear hfz18_0
           try clear hfz18_1
           try clear hfz18_2
           try clear hfz18_3
           try clear hfz18_4
           try clear hfz18_5
           try clear hfz20_0
           try clear hfz20_1
           try clear hfz20_2
           try clear hfz20_3
           try clear hfz20_4
           try clear hfz20_5
           try clear hfz23_0
           try clear hfz23_1
           try clear hfz23_2
           try clear hfz23_3
           try clear hfz23_4
           try clear hfz23_5
           try clear hfz29_0
           try clear hfz29_1
           try clear hfz29_2
           try clear hfz29_3
           try clear hfz29_4
           try clear hfz29_5
           try clear hfz30_0
           try clear hfz30_1
           try clear hfz30_2
           try clear hfz30_3
           try clear hfz30_4
           try clear hfz30_5
           try clear hfz35_0
           try clear hfz35_1
           try clear hfz35_2
           try clear hfz35_3
           try clear hfz35_4
           try clear hfz35_5
           try clear hfz36_0
           try clear hfz36_1
           try clear hfz36_2
           try clear hfz36_3
           try clear hfz36_4
           try clear hfz36_5
           try clear hfz42_0
           try clear hfz42_1
           try clear hfz42_2
           try clear hfz42_3
           try clear hfz42_4
           try clear hfz42_5
           try clear hfz43_0
           try clear hfz43_1
           try clear hfz43_2
           try clear hfz43_3
           try clear hfz43_4
           try clear hfz43_5
           try clear p2
           obtain ⟨kq, x43_43, rfl, HA, HJ43, BK195, BK196, HB⟩ := hcut
           cases kq with
           | zero => exact absurd HA.out (by simp [impl_Suits.j3])
           | succ kj43 =>
            have H := HA.out
            clear HA
            simp only [impl_Suits.j3] at H
            by_cases c46 : x43_43 = true
            rotate_left
            ·replace c46 := Bool.eq_false_iff.mpr c46
             subst c46
             rw [if_neg (show ¬ (false = true) by decide)] at H
             (try dsimp only at H)
             by_cases c52 : a1_2 = a0_1
             rotate_left
             ·rw [if_neg c52] at H
              have c52b0 : (a1_2 == a0_1) = false := beq_eq_false_iff_ne.mpr c52
              have c52b1 : (a1_2 != a0_1) = true := bne_iff_ne.mpr c52
              obtain rfl := Option.some.inj H
              have hnb62 := NB196_195.out
              have hnc62 := NB195_196.out
              obtain ⟨hcz63_0, hfz63_0, hcz63_1, hfz63_1, hcz63_2, hfz63_2, hcz63_3, hfz63_3, hcz63_4, hfz63_4, hcz63_5, hfz63_5⟩ := bk6 BK196.out
              obtain ⟨hcz64_0, hfz64_0, hcz64_1, hfz64_1, hcz64_2, hfz64_2, hcz64_3, hfz64_3, hcz64_4, hfz64_4, hcz64_5, hfz64_5⟩ := bk6 BK195.out
              go_wp2
              go_ret
              exact ⟨by first | rfl | (simp [errW_none, errW_some] <;> rfl) | (simp [*, errW_none, errW_some] <;> rfl), bS HB.out⟩
             rw [if_pos c52] at H
             have c52b0 : (a1_2 == a0_1) = true := beq_iff_eq.mpr c52
             have c52b1 : (a1_2 != a0_1) = false := bne_eq_false_iff_eq.mpr c52
             clear c52
             replace H := Option.bind_eq_some_iff.mp H
             obtain ⟨t201, A530, H⟩ := H
             (try dsimp only at H)
             have A53 := aM A530
             clear A530
             by_cases c54 : t201 = true
             rotate_left
             ·replace c54 := Bool.eq_false_iff.mpr c54
              subst c54
              rw [if_neg (show ¬ (false = true) by decide)] at H
              (try dsimp only at H)
              obtain rfl := Option.some.inj H
              have hnb59 := NB196_195.out
              have hnc59 := NB195_196.out
              obtain ⟨hcz60_0, hfz60_0, hcz60_1, hfz60_1, hcz60_2, hfz60_2, hcz60_3, hfz60_3, hcz60_4, hfz60_4, hcz60_5, hfz60_5⟩ := bk6 BK196.out
              obtain ⟨hcz61_0, hfz61_0, hcz61_1, hfz61_1, hcz61_2, hfz61_2, hcz61_3, hfz61_3, hcz61_4, hfz61_4, hcz61_5, hfz61_5⟩ := bk6 BK195.out
              go_wp2_with (first | (go_at_call 57; (with_reducible refine (slices_Equal_int_int.calls kj43 _ _ l1_4 _ _ l0_3 false _ ?side1 ?side2 ?side3 ?side4 A53.out).mono ?_); (case side1 => exact cB HR1_4.out HB.out); (case side2 => exact HC1_4.out); (case side3 => exact cB HR0_3.out HB.out); (case side4 => exact HC0_3.out); rintro e w' ⟨rfl, ⟨nd, rfl⟩⟩))
              go_ret
              exact ⟨by first | rfl | (simp [errW_none, errW_some] <;> rfl) | (simp [*, errW_none, errW_some] <;> rfl), bS HB.out⟩
             subst c54
             rw [if_pos rfl] at H
             (try dsimp only at H)
             replace H := Option.bind_eq_some_iff.mp H
             obtain ⟨t202, A550, H⟩ := H
             (try dsimp only at H)
             have A55 := aM A550
             clear A550
             obtain rfl := Option.some.inj H
             have hnb56 := NB196_195.out
             have hnc56 := NB195_196.out
             obtain ⟨hcz57_0, hfz57_0, hcz57_1, hfz57_1, hcz57_2, hfz57_2, hcz57_3, hfz57_3, hcz57_4, hfz57_4, hcz57_5, hfz57_5⟩ := bk6 BK196.out
             obtain ⟨hcz58_0, hfz58_0, hcz58_1, hfz58_1, hcz58_2, hfz58_2, hcz58_3, hfz58_3, hcz58_4, hfz58_4, hcz58_5, hfz58_5⟩ := bk6 BK195.out
             go_wp2_with (first | (go_at_call 57; (with_reducible refine (slices_Equal_int_int.calls kj43 _ _ l1_4 _ _ l0_3 true _ ?side1 ?side2 ?side3 ?side4 A53.out).mono ?_); (case side1 => exact cB HR1_4.out HB.out); (case side2 => exact HC1_4.out); (case side3 => exact cB HR0_3.out HB.out); (case side4 => exact HC0_3.out); rintro e w' ⟨rfl, ⟨nd, rfl⟩⟩) | (go_at_call 58; (with_reducible refine (slices_Equal_bool_bool.calls kj43 _ _ l1_5 _ _ l0_4 t202 _ ?side1 ?side2 ?side3 ?side4 A55.out).mono ?_); (case side1 => repeat (first | exact (Kd.C_below HR1_5.out (bS HB.out)) | (with_reducible refine Kd.C_alloc ?_ _) | (with_reducible refine Kd.C_drewN ?_ _) | (with_reducible refine Kd.C_drew ?_))); (case side2 => exact HC1_5.out); (case side3 => repeat (first | exact (Kd.C_below HR0_4.out (bS HB.out)) | (with_reducible refine Kd.C_alloc ?_ _) | (with_reducible refine Kd.C_drewN ?_ _) | (with_reducible refine Kd.C_drew ?_))); (case side4 => exact HC0_4.out); rintro e w' ⟨rfl, ⟨nd, rfl⟩⟩))
             go_ret
             exact ⟨by first | rfl | (simp [errW_none, errW_some] <;> rfl) | (simp [*, errW_none, errW_some] <;> rfl), bS HB.out⟩
            subst c46
            rw [if_pos rfl] at H
            (try dsimp only at H)
            by_cases c47 : a1_2 = a0_1
            rotate_left
            ·rw [if_neg c47] at H
             have c47b0 : (a1_2 == a0_1) = false := beq_eq_false_iff_ne.mpr c47
             have c47b1 : (a1_2 != a0_1) = true := bne_iff_ne.mpr c47
             obtain rfl := Option.some.inj H
             try go_wp2
             have n0_ := aM (blk_drew BK195.out)
             have n1_ := aM (blk_drew BK196.out)
             have n2_ := aM (below_drew1 HB.out)
             clear BK195
             clear BK196
             clear HB
             have BK195 := n0_
             have BK196 := n1_
             have HB := n2_
             clear n0_ n1_ n2_
             refine start_ (n := 13) (S := fun w' => w'.cell? ⟨gb196, 0, none⟩ = some (.int .i64 a1_0) ∧ w'.cell? ⟨gb196, 1, none⟩ = some (.int .i64 a1_1) ∧ w'.cell? ⟨gb196, 2, none⟩ = some (.int .i64 a1_2) ∧ w'.cell? ⟨gb196, 3, none⟩ = some (.int .i64 a1_3) ∧ w'.cell? ⟨gb196, 4, none⟩ = some (.slice A1_4 l1_4.length c1_4) ∧ w'.cell? ⟨gb196, 5, none⟩ = some (.slice A1_5 l1_5.length c1_5) ∧ w'.cell? ⟨gb195, 0, none⟩ = some (.int .i64 a0_0) ∧ w'.cell? ⟨gb195, 1, none⟩ = some (.int .i64 a0_1) ∧ w'.cell? ⟨gb195, 2, none⟩ = some (.int .i64 a0_2) ∧ w'.cell? ⟨gb195, 3, none⟩ = some (.slice A0_3 l0_3.length c0_3) ∧ w'.cell? ⟨gb195, 4, none⟩ = some (.slice A0_4 l0_4.length c0_4) ∧ w'.cell? ⟨gb195, 5, none⟩ = some (.int .i64 a0_5)) (ds := []) #[false, false, false, false, false, false, false, false, false, false, false, false, false] (by kernel_rfl) rfl rfl ⟨(blk_cell BK196.out 0).trans rfl, (blk_cell BK196.out 1).trans rfl, (blk_cell BK196.out 2).trans rfl, (blk_cell BK196.out 3).trans rfl, (blk_cell BK196.out 4).trans rfl, (blk_cell BK196.out 5).trans rfl, (blk_cell BK195.out 0).trans rfl, (blk_cell BK195.out 1).trans rfl, (blk_cell BK195.out 2).trans rfl, (blk_cell BK195.out 3).trans rfl, (blk_cell BK195.out 4).trans rfl, (blk_cell BK195.out 5).trans rfl⟩ (fun hHeld => ?_); refine with_tabW impl_Suits.tab15 impl_Suits.bits15 (fun HT_ HW_ => ?_)
             generalize wc.drew = w51 at BK195 BK196 HB hHeld ⊢
             refine pU (i := 0) (N := some 46) #[true, false, false, false, false, false, false, false, false, false, false, false, false] HT_ ?_
             refine pU (i := 2) (N := some 48) #[true, false, true, false, false, false, false, false, false, false, false, false, false] HT_ ?_
             refine take_ (i := 1) (N := some 47) (v := ?_) (a' := ?_) #[true, true, true, false, false, false, false, false, false, false, false, false, false] rfl rfl (take_ofW HT_.out HW_.out (by kernel_rfl)) (fun _ _ _ h => h) (Or.inl ⟨by rfl, ?_⟩) hHeld ?_ ?_
             rotate_left
             ·rintro w' ⟨s0, s1, s2, s3, s4, s5, s6, s7, s8, s9, s10, s11⟩
              go_simp
              with_reducible rfl
             rotate_left
             ·simp only [Act.put, List.setIfInBounds_toArray, List.set_cons_zero, List.set_cons_succ, i64_w, i32_w]
              rfl
             refine take_ (i := 3) (N := some 49) (v := ?_) (a' := ?_) #[true, true, true, true, false, false, false, false, false, false, false, false, false] rfl rfl (take_ofW HT_.out HW_.out (by kernel_rfl)) (fun _ _ _ h => h) (Or.inl ⟨by rfl, ?_⟩) hHeld ?_ ?_
             rotate_left
             ·rintro w' ⟨s0, s1, s2, s3, s4, s5, s6, s7, s8, s9, s10, s11⟩
              go_simp
              with_reducible rfl
             rotate_left
             ·simp only [Act.put, List.setIfInBounds_toArray, List.set_cons_zero, List.set_cons_succ, i64_w, i32_w]
              rfl
             refine pU (i := 4) (N := some 50) #[true, true, true, true, true, false, false, false, false, false, false, false, false] HT_ ?_
             refine pU (i := 5) (N := some 51) #[true, true, true, true, true, true, false, false, false, false, false, false, false] HT_ ?_
             refine pN (i := 6) (N := some 52) #[true, true, true, true, true, true, true, false, false, false, false, false, false] HT_ ?_
             refine pN (i := 7) (N := some 53) #[true, true, true, true, true, true, true, true, false, false, false, false, false] HT_ ?_
             refine pN (i := 8) (N := some 54) #[true, true, true, true, true, true, true, true, true, false, false, false, false] HT_ ?_
             refine pN (i := 9) (N := some 55) #[true, true, true, true, true, true, true, true, true, true, false, false, false] HT_ ?_
             refine pN (i := 10) (N := some 56) #[true, true, true, true, true, true, true, true, true, true, true, false, false] HT_ ?_
             refine pU (i := 11) (N := some 57) #[true, true, true, true, true, true, true, true, true, true, true, true, false] HT_ ?_
             refine pU (i := 12) (N := some 4) #[true, true, true, true, true, true, true, true, true, true, true, true, true] HT_ ?_
             refine done_ (done_of HT_.out (by kernel_rfl)) ?_
             try go_wp2
             go_ret
             exact ⟨by first | rfl | (simp [errW_none, errW_some] <;> rfl) | (simp [*, errW_none, errW_some] <;> rfl), bS HB.out⟩
            rw [if_pos c47] at H
            have c47b0 : (a1_2 == a0_1) = true := beq_iff_eq.mpr c47
            have c47b1 : (a1_2 != a0_1) = false := bne_eq_false_iff_eq.mpr c47
            clear c47
            replace H := Option.bind_eq_some_iff.mp H
            obtain ⟨t200, A480, H⟩ := H
            (try dsimp only at H)
            have A48 := aM A480
            clear A480
            obtain rfl := Option.some.inj H
            try go_wp2
            have n0_ := aM (blk_drew BK195.out)
            have n1_ := aM (blk_drew BK196.out)
            have n2_ := aM (below_drew1 HB.out)
            clear BK195
            clear BK196
            clear HB
            have BK195 := n0_
            have BK196 := n1_
            have HB := n2_
            clear n0_ n1_ n2_
            refine start_ (n := 13) (S := fun w' => w'.cell? ⟨gb196, 0, none⟩ = some (.int .i64 a1_0) ∧ w'.cell? ⟨gb196, 1, none⟩ = some (.int .i64 a1_1) ∧ w'.cell? ⟨gb196, 2, none⟩ = some (.int .i64 a1_2) ∧ w'.cell? ⟨gb196, 3, none⟩ = some (.int .i64 a1_3) ∧ w'.cell? ⟨gb196, 4, none⟩ = some (.slice A1_4 l1_4.length c1_4) ∧ w'.cell? ⟨gb196, 5, none⟩ = some (.slice A1_5 l1_5.length c1_5) ∧ w'.cell? ⟨gb195, 0, none⟩ = some (.int .i64 a0_0) ∧ w'.cell? ⟨gb195, 1, none⟩ = some (.int .i64 a0_1) ∧ w'.cell? ⟨gb195, 2, none⟩ = some (.int .i64 a0_2) ∧ w'.cell? ⟨gb195, 3, none⟩ = some (.slice A0_3 l0_3.length c0_3) ∧ w'.cell? ⟨gb195, 4, none⟩ = some (.slice A0_4 l0_4.length c0_4) ∧ w'.cell? ⟨gb195, 5, none⟩ = some (.int .i64 a0_5)) (ds := []) #[false, false, false, false, false, false, false, false, false, false, false, false, false] (by kernel_rfl) rfl rfl ⟨(blk_cell BK196.out 0).trans rfl, (blk_cell BK196.out 1).trans rfl, (blk_cell BK196.out 2).trans rfl, (blk_cell BK196.out 3).trans rfl, (blk_cell BK196.out 4).trans rfl, (blk_cell BK196.out 5).trans rfl, (blk_cell BK195.out 0).trans rfl, (blk_cell BK195.out 1).trans rfl, (blk_cell BK195.out 2).trans rfl, (blk_cell BK195.out 3).trans rfl, (blk_cell BK195.out 4).trans rfl, (blk_cell BK195.out 5).trans rfl⟩ (fun hHeld => ?_); refine with_tabW impl_Suits.tab15 impl_Suits.bits15 (fun HT_ HW_ => ?_)
            generalize wc.drew = w49 at BK195 BK196 HB hHeld ⊢
            refine pU (i := 0) (N := some 46) #[true, false, false, false, false, false, false, false, false, false, false, false, false] HT_ ?_
            refine pU (i := 2) (N := some 48) #[true, false, true, false, false, false, false, false, false, false, false, false, false] HT_ ?_
            refine take_ (i := 1) (N := some 47) (v := ?_) (a' := ?_) #[true, true, true, false, false, false, false, false, false, false, false, false, false] rfl rfl (take_ofW HT_.out HW_.out (by kernel_rfl)) (fun _ _ _ h => h) (Or.inl ⟨by rfl, ?_⟩) hHeld ?_ ?_
            rotate_left
            ·rintro w' ⟨s0, s1, s2, s3, s4, s5, s6, s7, s8, s9, s10, s11⟩
             go_simp
             with_reducible rfl
            rotate_left
            ·simp only [Act.put, List.setIfInBounds_toArray, List.set_cons_zero, List.set_cons_succ, i64_w, i32_w]
             rfl
            refine take_ (i := 3) (N := some 49) (v := ?_) (a' := ?_) #[true, true, true, true, false, false, false, false, false, false, false, false, false] rfl rfl (take_ofW HT_.out HW_.out (by kernel_rfl)) (fun _ _ _ h => h) (Or.inl ⟨by rfl, ?_⟩) hHeld ?_ ?_
            rotate_left
            ·rintro w' ⟨s0, s1, s2, s3, s4, s5, s6, s7, s8, s9, s10, s11⟩
             go_simp
             with_reducible rfl
            rotate_left
            ·simp only [Act.put, List.setIfInBounds_toArray, List.set_cons_zero, List.set_cons_succ, i64_w, i32_w]
             rfl
            refine pU (i := 4) (N := some 50) #[true, true, true, true, true, false, false, false, false, false, false, false, false] HT_ ?_
            refine pU (i := 5) (N := some 51) #[true, true, true, true, true, true, false, false, false, false, false, false, false] HT_ ?_
            refine pU (i := 6) (N := some 52) #[true, true, true, true, true, true, true, false, false, false, false, false, false] HT_ ?_
            refine take_ (i := 7) (N := some 53) (v := ?_) (a' := ?_) #[true, true, true, true, true, true, true, true, false, false, false, false, false] rfl rfl (take_ofW HT_.out HW_.out (by kernel_rfl)) (fun _ _ _ h => h) (Or.inl ⟨by rfl, ?_⟩) hHeld ?_ ?_
            rotate_left
            ·rintro w' ⟨s0, s1, s2, s3, s4, s5, s6, s7, s8, s9, s10, s11⟩
             go_simp
             with_reducible rfl
            rotate_left
            ·simp only [Act.put, List.setIfInBounds_toArray, List.set_cons_zero, List.set_cons_succ, i64_w, i32_w]
             rfl
            refine take_ (i := 8) (N := some 54) (v := ?_) (a' := ?_) #[true, true, true, true, true, true, true, true, true, false, false, false, false] rfl rfl (take_ofW HT_.out HW_.out (by kernel_rfl)) (fun _ _ _ h => h) (Or.inl ⟨by rfl, ?_⟩) hHeld ?_ ?_
            rotate_left
            ·rintro w' ⟨s0, s1, s2, s3, s4, s5, s6, s7, s8, s9, s10, s11⟩
             go_simp
             with_reducible rfl
            rotate_left
            ·simp only [Act.put, List.setIfInBounds_toArray, List.set_cons_zero, List.set_cons_succ, i64_w, i32_w]
             rfl
            refine one_ (i := 9) (N := some 55) #[true, true, true, true, true, true, true, true, true, true, false, false, false] rfl rfl (one_of HT_.out (by kernel_rfl)) (by decide) (fun K hK => ?_)
            refine goes_ Try.func50 (by kernel_rfl) rfl #[.agg #[.int .i64 a0_0, .int .i64 a0_1, .int .i64 a0_2, .slice A0_3 l0_3.length c0_3, .slice A0_4 l0_4.length c0_4, .int .i64 a0_5]] (by rfl) rfl rfl (by (try simp only [List.map_toArray, List.map_cons, List.map_nil]); first | done | rfl | (simp only [List.length_drop, List.length_take]; rfl)) ?_
            with_reducible refine (impl_written.calls a0_0 a0_1 a0_2 _ _ l0_3 _ _ l0_4 a0_5 t200 _ ?side1 ?side2 ?side3 ?side4 A48.out).mono ?_
            (case side1 => exact cB HR0_3.out HB.out)
            (case side2 => exact HC0_3.out)
            (case side3 => exact cB HR0_4.out HB.out)
            (case side4 => exact HC0_4.out)
            rintro e w50 ⟨rfl, hb⟩
            refine ⟨_, rfl, ?_⟩
            have n0_ := aM (kB BK195.out hb)
            have n1_ := aM (kB BK196.out hb)
            have n2_ := aM (below_step (bS HB.out) hb)
            clear BK195
            clear BK196
            clear HB
            have BK195 := n0_
            have BK196 := n1_
            have HB := n2_
            clear n0_ n1_ n2_
            (try clear hb)
            (try clear hb2)
            (try clear hk)
            (try clear hi)
            refine hK.out _ _ ⟨(blk_cell BK196.out 0).trans rfl, (blk_cell BK196.out 1).trans rfl, (blk_cell BK196.out 2).trans rfl, (blk_cell BK196.out 3).trans rfl, (blk_cell BK196.out 4).trans rfl, (blk_cell BK196.out 5).trans rfl, (blk_cell BK195.out 0).trans rfl, (blk_cell BK195.out 1).trans rfl, (blk_cell BK195.out 2).trans rfl, (blk_cell BK195.out 3).trans rfl, (blk_cell BK195.out 4).trans rfl, (blk_cell BK195.out 5).trans rfl⟩ (fun hHeld => ?_)
            clear hK K
            refine norm_ (a' := ?_) ?_ ?_
            rotate_left
            ·show Act.put _ (some 55) _ = _
             simp only [Act.put, List.setIfInBounds_toArray, List.set_cons_zero, List.set_cons_succ, i64_w, i32_w]
             rfl
            refine pU (i := 10) (N := some 56) #[true, true, true, true, true, true, true, true, true, true, true, false, false] HT_ ?_
            refine pU (i := 11) (N := some 57) #[true, true, true, true, true, true, true, true, true, true, true, true, false] HT_ ?_
            refine pU (i := 12) (N := some 4) #[true, true, true, true, true, true, true, true, true, true, true, true, true] HT_ ?_
            refine done_ (done_of HT_.out (by kernel_rfl)) ?_
            try go_wp2
            go_ret
            exact ⟨by first | rfl | (simp [errW_none, errW_some] <;> rfl) | (simp [*, errW_none, errW_some] <;> rfl), bS HB.out⟩
end Go.Proofs.Ytbdifcgkokajlaa.G
