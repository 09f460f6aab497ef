/- Contracts of functions, for more than one law: what they compute. -/
import Derived.Test.YteoghpcgompajaaM
import Derived.Test.YteoghpcgompajaaProg
import Derived.Test.YteoghpcgompajaaWMore
import Derived.Test.YteoghpcgompajaaWRepsOne
import Derived.Test.YteoghpcgompajaaWTab
import Derived.WalkSpells
import Derived.Test.YteoghpcgompajaaL
import Derived.Below
import Derived.Deep.Draws
import Derived.Deep.AppendLies
import Derived.Maps.AppendAt
import Derived.OwnWalk
import Derived.Laws.BytesArg
import Derived.Laws.MakeOwn
import Derived.Laws.OwnMore
import Derived.Deep.OwnRows
import Derived.Tactics
import Derived.Lib.ConvBytes
import Derived.Laws.Slices
import Derived.WalkKit
import Derived.KernelRfl
import Derived.RowKit3
import Derived.Deep.LoopGhost
import Derived.Deep.QuietTactic
import Derived.BigQuiet
import Derived.WideLaws
import Derived.Deep.DeepCutAuto
import Derived.Deep.CutBlock
import Derived.Deep.RegionHeld3
import Derived.Laws.Rows
import Derived.Lib.AppendStr
import Derived.ArgAppend
import Derived.Laws.IdiomCopy
import Derived.OrdersHeld
import Derived.Laws.BitsLemmas
import Derived.RowKit
import Derived.Test.YteoghpcgompajaaWWords
import Derived.Test.YteoghpcgompajaaWLast
import Derived.Test.YteoghpcgompajaaWFour
import Derived.Test.YteoghpcgompajaaWQPut
import Derived.Test.YteoghpcgompajaaWApart
import Derived.Test.YteoghpcgompajaaWArr
import Derived.Test.YteoghpcgompajaaWZeros
import Derived.Test.YteoghpcgompajaaWFoot
import Derived.Test.YteoghpcgompajaaWKept
import Derived.Test.YteoghpcgompajaaWShare
import Derived.Test.YteoghpcgompajaaWN
import Derived.Test.YteoghpcgompajaaWFootNe
import Derived.Test.YteoghpcgompajaaWAt
import Derived.Test.YteoghpcgompajaaWEqStruct
import Derived.Test.YteoghpcgompajaaWInv
import Derived.Test.YteoghpcgompajaaWInvWords
import Derived.Test.YteoghpcgompajaaWGuard
import Derived.Test.YteoghpcgompajaaWNEv
import Derived.Test.YteoghpcgompajaaGTakerB
import Derived.Test.YteoghpcgompajaaGTakerW
namespace Go.Proofs.Yteoghpcgompajaa.G
open Go.Proofs.Yteoghpcgompajaa.K Go Go.RowKit Go.Proofs.YteoghpcgompajaaW.PrintWords Go.Proofs.YteoghpcgompajaaW.PrintLast Go.Proofs.YteoghpcgompajaaW.PrintMore
attribute [local go_sem] max2_int min2_int max_two min_two max_three min_three max_four min_four   -- for this text's walks alone
set_option linter.unusedVariables false
set_option linter.unusedSimpArgs false

/-! ### impl_taker_req: function 51 -/
def impl_taker_req.j0 : Nat → Int → Bool → List Int → Int → Bool → Int → Int → Int → Int → Option (Int × Int × Int × List Int × List Bool × Int × Int × Bool)
 | 0, _, _, _, _, _, _, _, _, _ => none
 | k + 1, x10, x22, x1000, x1001, x1002, x340000, x340001, x340002, x340005 => if x22 = true then ((impl_taker_word.f x1000 x1001 x1002).bind fun bt340 => (some (x340000, x340001, bt340.1, ([] : List Int), ([] : List Bool), x340005, bt340.2.1, bt340.2.2))) else (if x10 = 5 then ((impl_taker_bit.f x1000 x1001 x1002).bind fun bt343 => (some (x340000, x340001, x340002, ([] : List Int), bt343.1, x340005, bt343.2.1, bt343.2.2))) else (if x10 = 6 then ((impl_taker_words.f k x1000 x1001 x1002 1).bind fun bt348 => (some (x340000, x340001, x340002, bt348.1, ([] : List Bool), x340005, bt348.2.1, bt348.2.2))) else (if x10 = 15 then ((impl_taker_word.f x1000 x1001 x1002).bind fun bt353 => ((impl_taker_bits.f k x1000 bt353.2.1 bt353.2.2 bt353.1).bind fun bt356 => (some (x340000, x340001, x340002, ([] : List Int), bt356.1, x340005, bt356.2.1, bt356.2.2)))) else (if x10 = 16 then ((impl_taker_word.f x1000 x1001 x1002).bind fun bt361 => ((impl_taker_countedWords.f k x1000 bt361.2.1 bt361.2.2 bt361.1).bind fun bt364 => (some (x340000, x340001, x340002, bt364.1, ([] : List Bool), x340005, bt364.2.1, bt364.2.2)))) else (if x10 = 22 then ((impl_taker_words.f k x1000 x1001 x1002 2).bind fun bt369 => (some (x340000, x340001, x340002, bt369.1, ([] : List Bool), x340005, bt369.2.1, bt369.2.2))) else ((impl_taker_word.f x1000 x1001 x1002).bind fun bt374 => ((impl_taker_word.f x1000 bt374.2.1 bt374.2.2).bind fun bt377 => ((impl_taker_word.f x1000 bt377.2.1 bt377.2.2).bind fun bt380 => ((impl_taker_countedWords.f k x1000 bt380.2.1 bt380.2.2 bt380.1).bind fun bt383 => (some (x340000, x340001, bt374.1, bt383.1, ([] : List Bool), bt377.1, bt383.2.1, bt383.2.2)))))))))))
def impl_taker_req.f (k : Nat) (s0_0 : List Int) (s0_1 : Int) (s0_2 : Bool) (a1 : Int) : Option (Int × Int × Int × List Int × List Bool × Int × Int × Bool) := (impl_taker_word.f s0_0 s0_1 s0_2).bind fun bt336 => (if a1 = 1 then (impl_taker_req.j0 k a1 (a1 == 1) s0_0 bt336.2.1 bt336.2.2 a1 bt336.1 0 0) else (if a1 = 2 then (impl_taker_req.j0 k a1 (a1 == 2) s0_0 bt336.2.1 bt336.2.2 a1 bt336.1 0 0) else (if a1 = 3 then (impl_taker_req.j0 k a1 (a1 == 3) s0_0 bt336.2.1 bt336.2.2 a1 bt336.1 0 0) else (impl_taker_req.j0 k a1 (a1 == 4) s0_0 bt336.2.1 bt336.2.2 a1 bt336.1 0 0))))
theorem impl_taker_req.mono_l : ∀ k, (∀ y0 y1 y2 y3 y4 y5 y6 y7 y8, LeO (impl_taker_req.j0 k y0 y1 y2 y3 y4 y5 y6 y7 y8) (impl_taker_req.j0 (k + 1) y0 y1 y2 y3 y4 y5 y6 y7 y8))
 | 0 => fun _ _ _ _ _ _ _ _ _ r h => by simp [impl_taker_req.j0] at h
 | k + 1 => by
  have ih0 := impl_taker_req.mono_l k
  ·intro y0 y1 y2 y3 y4 y5 y6 y7 y8
   unfold impl_taker_req.j0
   repeat' first
   | (with_reducible exact ih0 _ _ _ _ _ _ _ _ _)
   | (with_reducible exact impl_taker_bits.mono _ _ _ _ _)
   | (with_reducible exact impl_taker_countedWords.mono _ _ _ _ _)
   | (with_reducible exact impl_taker_words.mono _ _ _ _ _)
   | (with_reducible exact LeO.refl _)
   | (with_reducible exact LeO.none _)
   | (with_reducible refine LeO.ite ?_ ?_)
   | (with_reducible refine LeO.bind ?_ (fun _ => ?_))
   | exact ih0 _ _ _ _ _ _ _ _ _
   | exact impl_taker_bits.mono _ _ _ _ _
   | exact impl_taker_countedWords.mono _ _ _ _ _
   | exact impl_taker_words.mono _ _ _ _ _
   | exact LeO.none _
   | refine LeO.ite ?_ ?_
   | refine LeO.bind ?_ (fun _ => ?_)
theorem impl_taker_req.mono : ∀ a0 a1 a2 a3 k, LeO (impl_taker_req.f k a0 a1 a2 a3) (impl_taker_req.f (k + 1) a0 a1 a2 a3) := by
 intro a0 a1 a2 a3 k
 have ih0 := impl_taker_req.mono_l k
 unfold impl_taker_req.f
 repeat' first
   | (with_reducible exact ih0 _ _ _ _ _ _ _ _ _)
   | (with_reducible exact impl_taker_bits.mono _ _ _ _ _)
   | (with_reducible exact impl_taker_countedWords.mono _ _ _ _ _)
   | (with_reducible exact impl_taker_words.mono _ _ _ _ _)
   | (with_reducible exact LeO.refl _)
   | (with_reducible exact LeO.none _)
   | (with_reducible refine LeO.ite ?_ ?_)
   | (with_reducible refine LeO.bind ?_ (fun _ => ?_))
   | exact ih0 _ _ _ _ _ _ _ _ _
   | exact impl_taker_bits.mono _ _ _ _ _
   | exact impl_taker_countedWords.mono _ _ _ _ _
   | exact impl_taker_words.mono _ _ _ _ _
   | exact LeO.none _
   | refine LeO.ite ?_ ?_
   | refine LeO.bind ?_ (fun _ => ?_)
set_option maxHeartbeats 8000000 in
set_option maxRecDepth 100000 in
theorem impl_taker_req.calls (k : Nat) (g : Nat) (s0_0 : List Int) (s0_1 : Int) (s0_2 : Bool) (a1 : Int) (r1 : Int) (r2 : Int) (r3 : Int) (r4 : List Int) (r5 : List Bool) (r6 : Int) (r7 : Int) (r8 : Bool) (w0 w : World) (hI : IsS66 w0 w g s0_0 s0_1 s0_2) (hB : Below w0.heap.size w0 w) (h : impl_taker_req.f k s0_0 s0_1 s0_2 a1 = some (r1, r2, r3, r4, r5, r6, r7, r8)) :
  Calls Try.prog 51 #[.pointer (some ⟨g, 0, none⟩), .int .i64 a1] w fun e w' => ∃ v3_ v4_ : Value, e = .returned (.agg #[.int .i64 r1, .int .i64 r2, .int .i64 r3, v3_, v4_, .int .i64 r6]) ∧ Kd.R (Kd.int .i64) 3 w' w.heap.size (fun _ => True) v3_ r4 ∧ Kd.R Kd.bool 4 w' w.heap.size (fun _ => True) v4_ r5 ∧ IsS66 w0 w' g s0_0 r7 r8 ∧ Below w0.heap.size w0 w' ∧ KeepBut w w' g none := by
 have hu29 := Try.underlying29
 have HI0 := aM hI
 have HK := aM (KeepBut.refl w g none)
 have HL := aM hB.size
 clear hI
 have HW0 := aM hB.size
 have HB := aM hB
 clear hB
 have H : ((impl_taker_word.f s0_0 s0_1 s0_2).bind fun bt336 => (if a1 = 1 then (impl_taker_req.j0 k a1 (a1 == 1) s0_0 bt336.2.1 bt336.2.2 a1 bt336.1 0 0) else (if a1 = 2 then (impl_taker_req.j0 k a1 (a1 == 2) s0_0 bt336.2.1 bt336.2.2 a1 bt336.1 0 0) else (if a1 = 3 then (impl_taker_req.j0 k a1 (a1 == 3) s0_0 bt336.2.1 bt336.2.2 a1 bt336.1 0 0) else (impl_taker_req.j0 k a1 (a1 == 4) s0_0 bt336.2.1 bt336.2.2 a1 bt336.1 0 0))))) = some (r1, r2, r3, r4, r5, r6, r7, r8) := h
 clear h
 replace H := Option.bind_eq_some_iff.mp H
 obtain ⟨⟨t336, t337, t338⟩, A30, H⟩ := H
 (try dsimp only at H)
 have A3 := aM A30
 clear A30
 have HC4 := aM H
 clear H
 go_enter Try.func51, Try.ntmps51
 go_upto_if 22 with (first | ((with_reducible refine gate_dst (N := 4) rfl ?_); refine box_event ?hg (N := 4) ?hd (cs := #[.int .i64 0, .int .i64 0, .int .i64 0, .slice none 0 0, .slice none 0 0, .int .i64 0]) (t := 29) ?hr ?_; (case hd => rfl); (case hg => rfl); (case hr => first | (go_simp; done) | (go_simp; rfl)); intro gb335 hg w5 hbox hb; have _ := aM (IsS66.below sI66 hb); have _ := aM (KeepBut.trans (sG (w := w)) (KeepBut.of_below hb g none) (.inl rfl)); have _ := aM (below_step (sB66 (B := w0.heap.size) (w0 := w0)) hb); have _ := aM (hbox); have _ := aM ((by rw [hg]; exact (keep_size (w := w) (g := g) (row := none) (sG (w := w))) : w.heap.size ≤ gb335)); have _ := aM ((Nat.le_trans HW0.out (by rw [hg]; exact (keep_size (w := w) (g := g) (row := none) (sG (w := w))) : w.heap.size ≤ gb335) : w0.heap.size ≤ gb335)); have _ := aM ((by rw [hg]; exact Nat.ne_of_lt (IsS66.lt (show IsS66 w0 _ g s0_0 s0_1 s0_2 from sI66)) : g ≠ gb335)); have _ := aM ((by rw [hg]; exact Nat.ne_of_gt (IsS66.lt (show IsS66 w0 _ g s0_0 s0_1 s0_2 from sI66)) : gb335 ≠ g)); clear HI0 HK HB; rename_i HI0 HK HB BK335 GW335 GE335 NB0_335 NB335_0; clear hb hbox hg) | ((with_reducible refine gate_callee (f := 68) rfl ?_); refine gL (some 8) rfl rfl Try.func68 (by kernel_rfl) rfl #[.pointer (some ⟨g, 0, none⟩)] rfl ?_; (with_reducible refine (impl_taker_word.calls g s0_0 s0_1 s0_2 t336 t337 t338 w0 _ ?side1 ?side2 A3.out).mono ?_); (case side1 => exact sI66); (case side2 => exact (sB66 (B := w0.heap.size) (w0 := w0))); rintro e w6 ⟨rfl, hi, hb, hk⟩; refine ⟨_, rfl, ?_⟩; have _ := aM (KeepBut.blk hk (g' := gb335) (o := .cells #[.int .i64 0, .int .i64 0, .int .i64 0, .slice none 0 0, .slice none 0 0, .int .i64 0] 29 (0, 0)) (kA BK335.out) NB335_0.out (by simp)); have _ := aM (KeepBut.trans (sG (w := w)) hk (.inl rfl)); have _ := aM (hb); have _ := aM (hi); clear BK335 HK HB HI0; rename_i BK335 HK HB HI0; (try clear hb); (try clear hk); (try clear hi)) | ((with_reducible refine gate_dst (N := 5) rfl ?_); refine box_event ?hg (N := 5) ?hd (cs := #[.int .i64 0, .int .i64 0, .int .i64 0, .slice none 0 0, .slice none 0 0, .int .i64 0]) (t := 29) ?hr ?_; (case hd => rfl); (case hg => rfl); (case hr => first | (go_simp; done) | (go_simp; rfl)); intro gb339 hg w7 hbox hb; have _ := aM (IsS66.below sI66 hb); have _ := aM (kB BK335.out hb); have _ := aM (KeepBut.trans (sG (w := w)) (KeepBut.of_below hb g none) (.inl rfl)); have _ := aM (below_step (sB66 (B := w0.heap.size) (w0 := w0)) hb); have _ := aM (hbox); have _ := aM ((by rw [hg]; exact (keep_size (w := w) (g := g) (row := none) (sG (w := w))) : w.heap.size ≤ gb339)); have _ := aM ((Nat.le_trans HW0.out (by rw [hg]; exact (keep_size (w := w) (g := g) (row := none) (sG (w := w))) : w.heap.size ≤ gb339) : w0.heap.size ≤ gb339)); have _ := aM (neL hg (kA BK335.out)); have _ := aM (neG hg (kA BK335.out)); have _ := aM ((by rw [hg]; exact Nat.ne_of_lt (IsS66.lt (show IsS66 w0 _ g s0_0 t337 t338 from sI66)) : g ≠ gb339)); have _ := aM ((by rw [hg]; exact Nat.ne_of_gt (IsS66.lt (show IsS66 w0 _ g s0_0 t337 t338 from sI66)) : gb339 ≠ g)); clear HI0 BK335 HK HB; rename_i HI0 BK335 HK HB BK339 GW339 GE339 NB335_339 NB339_335 NB0_339 NB339_0; clear hb hbox hg; have hnb8 := NB339_335.out; have hnc8 := NB335_339.out; have hnb9 := NB339_0.out; have hnc9 := NB0_339.out; obtain ⟨hcz10_0, hfz10_0, hcz10_1, hfz10_1, hcz10_2, hfz10_2, hcz10_3, hfz10_3, hcz10_4, hfz10_4, hcz10_5, hfz10_5⟩ := bk6 BK339.out))
 (try simp only [Act.put, List.setIfInBounds_toArray, List.set_cons_zero, List.set_cons_succ])
 go_cut [22] (fun v22 wc => ∃ (kq : Nat) (x22_3 : Bool), v22 = .bool x22_3 ∧ Aside0 (impl_taker_req.j0 kq a1 x22_3 s0_0 t337 t338 a1 t336 0 0 = some (r1, r2, r3, r4, r5, r6, r7, r8)) ∧ Aside0 (kq ≤ k) ∧ Aside0 (wc.heap[gb335]? = some (.cells #[.int .i64 0, .int .i64 0, .int .i64 0, (.slice none 0 0), (.slice none 0 0), .int .i64 0] 29 (0, 0))) ∧ Aside0 (wc.heap[gb339]? = some (.cells #[.int .i64 a1, .int .i64 t336, .int .i64 0, (.slice none 0 0), (.slice none 0 0), .int .i64 0] 29 (0, 0))) ∧ Aside0 (IsS66 w0 wc g s0_0 t337 t338) ∧ Aside0 (KeepBut w wc g none) ∧ Aside0 (Below w0.heap.size w0 wc))
 case first =>
  have H := HC4.out
  clear HC4
  by_cases c11 : a1 = 1
  ·rw [if_pos c11] at H
   have c11b0 : (a1 == 1) = true := beq_iff_eq.mpr c11
   have c11b1 : (a1 != 1) = false := bne_eq_false_iff_eq.mpr c11
   clear c11
   (first | rw [c11b0] | (simp only [i64_w, i32_w]; rw [c11b0]) | skip)
   have H' := aM H
   clear H
   go_wp2
   go_meet
   case rel => exact ⟨_, ((a1 == 1)), (by first | rfl | (simp; done) | (simp [*]; done)), H', ⟨by first | omega | exact Nat.le_refl _⟩, ⟨kX BK335.out⟩, ⟨kX BK339.out⟩, ⟨sI66⟩, ⟨(sG (w := w))⟩, ⟨(sB66 (B := w0.heap.size) (w0 := w0))⟩⟩
  ·rw [if_neg c11] at H
   have c11b0 : (a1 == 1) = false := beq_eq_false_iff_ne.mpr c11
   have c11b1 : (a1 != 1) = true := bne_iff_ne.mpr c11
   (first | rw [c11b0] | (simp only [i64_w, i32_w]; rw [c11b0]) | skip)
   by_cases c12 : a1 = 2
   ·rw [if_pos c12] at H
    have c12b0 : (a1 == 2) = true := beq_iff_eq.mpr c12
    have c12b1 : (a1 != 2) = false := bne_eq_false_iff_eq.mpr c12
    clear c12
    have H' := aM H
    clear H
    go_wp2
    go_meet
    case rel => exact ⟨_, ((a1 == 2)), (by first | rfl | (simp; done) | (simp [*]; done)), H', ⟨by first | omega | exact Nat.le_refl _⟩, ⟨kX BK335.out⟩, ⟨kX BK339.out⟩, ⟨sI66⟩, ⟨(sG (w := w))⟩, ⟨(sB66 (B := w0.heap.size) (w0 := w0))⟩⟩
   ·rw [if_neg c12] at H
    have c12b0 : (a1 == 2) = false := beq_eq_false_iff_ne.mpr c12
    have c12b1 : (a1 != 2) = true := bne_iff_ne.mpr c12
    by_cases c13 : a1 = 3
    rotate_left
    ·rw [if_neg c13] at H
     have c13b0 : (a1 == 3) = false := beq_eq_false_iff_ne.mpr c13
     have c13b1 : (a1 != 3) = true := bne_iff_ne.mpr c13
     have H' := aM H
     clear H
     go_wp2
     go_meet
     case rel => exact ⟨_, ((a1 == 4)), (by first | rfl | (simp; done) | (simp [*]; done)), H', ⟨by first | omega | exact Nat.le_refl _⟩, ⟨kX BK335.out⟩, ⟨kX BK339.out⟩, ⟨sI66⟩, ⟨(sG (w := w))⟩, ⟨(sB66 (B := w0.heap.size) (w0 := w0))⟩⟩
    rw [if_pos c13] at H
    have c13b0 : (a1 == 3) = true := beq_iff_eq.mpr c13
    have c13b1 : (a1 != 3) = false := bne_eq_false_iff_eq.mpr c13
    clear c13
    have H' := aM H
    clear H
    go_wp2
    go_meet
    case rel => exact ⟨_, ((a1 == 3)), (by first | rfl | (simp; done) | (simp [*]; done)), H', ⟨by first | omega | exact Nat.le_refl _⟩, ⟨kX BK335.out⟩, ⟨kX BK339.out⟩, ⟨sI66⟩, ⟨(sG (w := w))⟩, ⟨(sB66 (B := w0.heap.size) (w0 := w0))⟩⟩
 case rest =>
  clear HC4
  try clear hcz10_0
  try clear hcz10_1
  try clear hcz10_2
  try clear hcz10_3
  try clear hcz10_4
  try clear hcz10_5
  try clear hfz10_0
  try clear hfz10_1
  try clear hfz10_2
  try clear hfz10_3
  try clear hfz10_4
  try clear hfz10_5
  obtain ⟨kq, x22_3, rfl, HA, HJ3, BK335, BK339, HI0, HK, HB⟩ := hcut
  cases kq with
  | zero => exact absurd HA.out (by simp [impl_taker_req.j0])
  | succ kj3 =>
   have H := HA.out
   clear HA
   simp only [impl_taker_req.j0] at H
   by_cases c14 : x22_3 = true
   ·subst c14
    rw [if_pos rfl] at H
    (try dsimp only at H)
    replace H := Option.bind_eq_some_iff.mp H
    obtain ⟨⟨t340, t341, t342⟩, A150, H⟩ := H
    (try dsimp only at H)
    have A15 := aM A150
    clear A150
    simp only [Option.some.injEq, Prod.mk.injEq] at H
    obtain ⟨rfl, rfl, rfl, rfl, rfl, rfl, rfl, rfl⟩ := H
    go_wp2_with (first | ((with_reducible refine gate_callee (f := 68) rfl ?_); refine gL (some 28) rfl rfl Try.func68 (by kernel_rfl) rfl #[.pointer (some ⟨g, 0, none⟩)] rfl ?_; (with_reducible refine (impl_taker_word.calls g s0_0 t337 t338 t340 t341 t342 w0 _ ?side1 ?side2 A15.out).mono ?_); (case side1 => exact sI66); (case side2 => exact (sB66 (B := w0.heap.size) (w0 := w0))); rintro e w16 ⟨rfl, hi, hb, hk⟩; refine ⟨_, rfl, ?_⟩; have _ := aM (KeepBut.blk hk (g' := gb335) (o := .cells #[.int .i64 0, .int .i64 0, .int .i64 0, .slice none 0 0, .slice none 0 0, .int .i64 0] 29 (0, 0)) (kA BK335.out) NB335_0.out (by simp)); have _ := aM (KeepBut.blk hk (g' := gb339) (o := .cells #[.int .i64 a1, .int .i64 t336, .int .i64 0, .slice none 0 0, .slice none 0 0, .int .i64 0] 29 (0, 0)) (kA BK339.out) NB339_0.out (by simp)); have _ := aM (KeepBut.trans (sG (w := w)) hk (.inl rfl)); have _ := aM (hb); have _ := aM (hi); clear BK335 BK339 HK HB HI0; rename_i BK335 BK339 HK HB HI0; (try clear hb); (try clear hk); (try clear hi); have hnb17 := NB339_335.out; have hnc17 := NB335_339.out; have hnb18 := NB339_0.out; have hnc18 := NB0_339.out; obtain ⟨hcz19_0, hfz19_0, hcz19_1, hfz19_1, hcz19_2, hfz19_2, hcz19_3, hfz19_3, hcz19_4, hfz19_4, hcz19_5, hfz19_5⟩ := bk6 BK339.out; have hnb20 := NB335_0.out; have hnc20 := NB0_335.out; obtain ⟨hcz21_0, hfz21_0, hcz21_1, hfz21_1, hcz21_2, hfz21_2, hcz21_3, hfz21_3, hcz21_4, hfz21_4, hcz21_5, hfz21_5⟩ := bk6 BK335.out))
    refine bodyPost_ret (results_cell_row rfl _ _ gb335 29 #[.int .i64 a1, .int .i64 t336, .int .i64 t340, .slice none 0 0, .slice none 0 0, .int .i64 0] (0, 0) _ rfl (kX BK335.out) Try.underlying29 rfl (by kernel_rfl)) rfl ?_
    exact ⟨_, _, by first | rfl | (simp [errW_none, errW_some] <;> rfl) | (simp [*, errW_none, errW_some] <;> rfl), by first | exact Kd.R_nil _ _ _ _ _ | exact Kd.N_nil _ _ _ _ _ | exact Kd.V_nil _ _ _ _ _ | exact Kd.Q_nil _ _ _ _ _ | exact Kd.S_nil _ _ _ _ _, by first | exact Kd.R_nil _ _ _ _ _ | exact Kd.N_nil _ _ _ _ _ | exact Kd.V_nil _ _ _ _ _ | exact Kd.Q_nil _ _ _ _ _ | exact Kd.S_nil _ _ _ _ _, sI66, (sB66 (B := w0.heap.size) (w0 := w0)), (sG (w := w))⟩
   ·replace c14 := Bool.eq_false_iff.mpr c14
    subst c14
    rw [if_neg (show ¬ (false = true) by decide)] at H
    (try dsimp only at H)
    by_cases c22 : a1 = 5
    ·rw [if_pos c22] at H
     have c22b0 : (a1 == 5) = true := beq_iff_eq.mpr c22
     have c22b1 : (a1 != 5) = false := bne_eq_false_iff_eq.mpr c22
     clear c22
     replace H := Option.bind_eq_some_iff.mp H
     obtain ⟨⟨t343, t346, t347⟩, A230, H⟩ := H
     (try dsimp only at H)
     have A23 := aM A230
     clear A230
     simp only [Option.some.injEq, Prod.mk.injEq] at H
     obtain ⟨rfl, rfl, rfl, rfl, rfl, rfl, rfl, rfl⟩ := H
     go_wp2_with (first | ((with_reducible refine gate_callee (f := 69) rfl ?_); refine gL (some 33) rfl rfl Try.func69 (by kernel_rfl) rfl #[.pointer (some ⟨g, 0, none⟩)] rfl ?_; (with_reducible refine (impl_taker_bit.calls g s0_0 t337 t338 t343 t346 t347 w0 _ ?side1 ?side2 A23.out).mono ?_); (case side1 => exact sI66); (case side2 => exact (sB66 (B := w0.heap.size) (w0 := w0))); rintro e w24 ⟨v344, rfl, ho0, hi, hb, hk⟩; refine ⟨_, rfl, ?_⟩; have _ := aM (KeepBut.blk hk (g' := gb335) (o := .cells #[.int .i64 0, .int .i64 0, .int .i64 0, .slice none 0 0, .slice none 0 0, .int .i64 0] 29 (0, 0)) (kA BK335.out) NB335_0.out (by simp)); have _ := aM (KeepBut.blk hk (g' := gb339) (o := .cells #[.int .i64 a1, .int .i64 t336, .int .i64 0, .slice none 0 0, .slice none 0 0, .int .i64 0] 29 (0, 0)) (kA BK339.out) NB339_0.out (by simp)); have _ := aM (Kd.R_lower ho0 (keep_size (w := w) (g := g) (row := none) (sG (w := w)))); have _ := aM (KeepBut.trans (sG (w := w)) hk (.inl rfl)); have _ := aM (hb); have _ := aM (hi); clear BK335 BK339 HK HB HI0; rename_i BK335 BK339 HO345 HK HB HI0; (try clear hb); (try clear hk); (try clear hi); (try clear ho0); obtain ⟨Ao25, co25, eo25⟩ := Kd.R_slice HO345.out; subst eo25; have hnb26 := NB339_335.out; have hnc26 := NB335_339.out; have hnb27 := NB339_0.out; have hnc27 := NB0_339.out; obtain ⟨hcz28_0, hfz28_0, hcz28_1, hfz28_1, hcz28_2, hfz28_2, hcz28_3, hfz28_3, hcz28_4, hfz28_4, hcz28_5, hfz28_5⟩ := bk6 BK339.out; have hnb29 := NB335_0.out; have hnc29 := NB0_335.out; obtain ⟨hcz30_0, hfz30_0, hcz30_1, hfz30_1, hcz30_2, hfz30_2, hcz30_3, hfz30_3, hcz30_4, hfz30_4, hcz30_5, hfz30_5⟩ := bk6 BK335.out))
     refine bodyPost_ret (results_cell_row rfl _ _ gb335 29 #[.int .i64 a1, .int .i64 t336, .int .i64 0, .slice none 0 0, .slice Ao25 t343.length co25, .int .i64 0] (0, 0) _ rfl (kX BK335.out) Try.underlying29 rfl (by kernel_rfl)) rfl ?_
     exact ⟨_, _, by first | rfl | (simp [errW_none, errW_some] <;> rfl) | (simp [*, errW_none, errW_some] <;> rfl), by first | exact Kd.R_nil _ _ _ _ _ | exact Kd.N_nil _ _ _ _ _ | exact Kd.V_nil _ _ _ _ _ | exact Kd.Q_nil _ _ _ _ _ | exact Kd.S_nil _ _ _ _ _, by (with_reducible repeat (first | apply Kd.R_alloc | apply Kd.R_drewN | apply Kd.R_drew)); exact Kd.R_mono (Kd.R_far (p := ⟨gb335, 5, none⟩) (Kd.R_far (p := ⟨gb335, 4, none⟩) (Kd.R_far (p := ⟨gb335, 3, none⟩) (Kd.R_far (p := ⟨gb335, 2, none⟩) (Kd.R_far (p := ⟨gb335, 1, none⟩) (Kd.R_far (p := ⟨gb335, 0, none⟩) (Kd.R_far (p := ⟨gb339, 4, none⟩) (Kd.R_types (Kd.R_types HO345.out BK339.out (by decide)) BK335.out (by decide)) (fun _ hk => hk.1.2) (.slice Ao25 t343.length co25)) (fun _ hk => hk.2) (.int .i64 a1)) (fun _ hk => hk.2) (.int .i64 t336)) (fun _ hk => hk.2) (.int .i64 0)) (fun _ hk => hk.2) (.slice none 0 0)) (fun _ hk => hk.2) (.slice Ao25 t343.length co25)) (fun _ hk => hk.2) (.int .i64 0)) (fun _ hk => trivial), sI66, (sB66 (B := w0.heap.size) (w0 := w0)), (sG (w := w))⟩
    ·rw [if_neg c22] at H
     have c22b0 : (a1 == 5) = false := beq_eq_false_iff_ne.mpr c22
     have c22b1 : (a1 != 5) = true := bne_iff_ne.mpr c22
     by_cases c31 : a1 = 6
     ·rw [if_pos c31] at H
      have c31b0 : (a1 == 6) = true := beq_iff_eq.mpr c31
      have c31b1 : (a1 != 6) = false := bne_eq_false_iff_eq.mpr c31
      clear c31
      replace H := Option.bind_eq_some_iff.mp H
      obtain ⟨⟨t348, t351, t352⟩, A320, H⟩ := H
      (try dsimp only at H)
      have A32 := aM A320
      clear A320
      simp only [Option.some.injEq, Prod.mk.injEq] at H
      obtain ⟨rfl, rfl, rfl, rfl, rfl, rfl, rfl, rfl⟩ := H
      go_wp2_with (first | ((with_reducible refine gate_callee (f := 70) rfl ?_); refine gL (some 38) rfl rfl Try.func70 (by kernel_rfl) rfl #[.pointer (some ⟨g, 0, none⟩), .int .i64 1] rfl ?_; (with_reducible refine (impl_taker_words.calls kj3 g s0_0 t337 t338 1 t348 t351 t352 w0 _ ?side1 ?side2 A32.out).mono ?_); (case side1 => exact sI66); (case side2 => exact (sB66 (B := w0.heap.size) (w0 := w0))); rintro e w33 ⟨v349, rfl, ho0, hi, hb, hk⟩; refine ⟨_, rfl, ?_⟩; have _ := aM (KeepBut.blk hk (g' := gb335) (o := .cells #[.int .i64 0, .int .i64 0, .int .i64 0, .slice none 0 0, .slice none 0 0, .int .i64 0] 29 (0, 0)) (kA BK335.out) NB335_0.out (by simp)); have _ := aM (KeepBut.blk hk (g' := gb339) (o := .cells #[.int .i64 a1, .int .i64 t336, .int .i64 0, .slice none 0 0, .slice none 0 0, .int .i64 0] 29 (0, 0)) (kA BK339.out) NB339_0.out (by simp)); have _ := aM (Kd.R_lower ho0 (keep_size (w := w) (g := g) (row := none) (sG (w := w)))); have _ := aM (KeepBut.trans (sG (w := w)) hk (.inl rfl)); have _ := aM (hb); have _ := aM (hi); clear BK335 BK339 HK HB HI0; rename_i BK335 BK339 HO350 HK HB HI0; (try clear hb); (try clear hk); (try clear hi); (try clear ho0); obtain ⟨Ao34, co34, eo34⟩ := Kd.R_slice HO350.out; subst eo34; have hnb35 := NB339_335.out; have hnc35 := NB335_339.out; have hnb36 := NB339_0.out; have hnc36 := NB0_339.out; obtain ⟨hcz37_0, hfz37_0, hcz37_1, hfz37_1, hcz37_2, hfz37_2, hcz37_3, hfz37_3, hcz37_4, hfz37_4, hcz37_5, hfz37_5⟩ := bk6 BK339.out; have hnb38 := NB335_0.out; have hnc38 := NB0_335.out; obtain ⟨hcz39_0, hfz39_0, hcz39_1, hfz39_1, hcz39_2, hfz39_2, hcz39_3, hfz39_3, hcz39_4, hfz39_4, hcz39_5, hfz39_5⟩ := bk6 BK335.out))
      refine bodyPost_ret (results_cell_row rfl _ _ gb335 29 #[.int .i64 a1, .int .i64 t336, .int .i64 0, .slice Ao34 t348.length co34, .slice none 0 0, .int .i64 0] (0, 0) _ rfl (kX BK335.out) Try.underlying29 rfl (by kernel_rfl)) rfl ?_
      exact ⟨_, _, by first | rfl | (simp [errW_none, errW_some] <;> rfl) | (simp [*, errW_none, errW_some] <;> rfl), by (with_reducible repeat (first | apply Kd.R_alloc | apply Kd.R_drewN | apply Kd.R_drew)); exact Kd.R_mono (Kd.R_far (p := ⟨gb335, 5, none⟩) (Kd.R_far (p := ⟨gb335, 4, none⟩) (Kd.R_far (p := ⟨gb335, 3, none⟩) (Kd.R_far (p := ⟨gb335, 2, none⟩) (Kd.R_far (p := ⟨gb335, 1, none⟩) (Kd.R_far (p := ⟨gb335, 0, none⟩) (Kd.R_far (p := ⟨gb339, 3, none⟩) (Kd.R_types (Kd.R_types HO350.out BK339.out (by decide)) BK335.out (by decide)) (fun _ hk => hk.1.2) (.slice Ao34 t348.length co34)) (fun _ hk => hk.2) (.int .i64 a1)) (fun _ hk => hk.2) (.int .i64 t336)) (fun _ hk => hk.2) (.int .i64 0)) (fun _ hk => hk.2) (.slice Ao34 t348.length co34)) (fun _ hk => hk.2) (.slice none 0 0)) (fun _ hk => hk.2) (.int .i64 0)) (fun _ hk => trivial), by first | exact Kd.R_nil _ _ _ _ _ | exact Kd.N_nil _ _ _ _ _ | exact Kd.V_nil _ _ _ _ _ | exact Kd.Q_nil _ _ _ _ _ | exact Kd.S_nil _ _ _ _ _, sI66, (sB66 (B := w0.heap.size) (w0 := w0)), (sG (w := w))⟩
     ·rw [if_neg c31] at H
      have c31b0 : (a1 == 6) = false := beq_eq_false_iff_ne.mpr c31
      have c31b1 : (a1 != 6) = true := bne_iff_ne.mpr c31
      by_cases c40 : a1 = 15
      ·rw [if_pos c40] at H
       have c40b0 : (a1 == 15) = true := beq_iff_eq.mpr c40
       have c40b1 : (a1 != 15) = false := bne_eq_false_iff_eq.mpr c40
       clear c40
       replace H := Option.bind_eq_some_iff.mp H
       obtain ⟨⟨t353, t354, t355⟩, A410, H⟩ := H
       (try dsimp only at H)
       have A41 := aM A410
       clear A410
       replace H := Option.bind_eq_some_iff.mp H
       obtain ⟨⟨t356, t359, t360⟩, A420, H⟩ := H
       (try dsimp only at H)
       have A42 := aM A420
       clear A420
       simp only [Option.some.injEq, Prod.mk.injEq] at H
       obtain ⟨rfl, rfl, rfl, rfl, rfl, rfl, rfl, rfl⟩ := H
       go_wp2_with (first | ((with_reducible refine gate_callee (f := 68) rfl ?_); refine gL (some 44) rfl rfl Try.func68 (by kernel_rfl) rfl #[.pointer (some ⟨g, 0, none⟩)] rfl ?_; (with_reducible refine (impl_taker_word.calls g s0_0 t337 t338 t353 t354 t355 w0 _ ?side1 ?side2 A41.out).mono ?_); (case side1 => exact sI66); (case side2 => exact (sB66 (B := w0.heap.size) (w0 := w0))); rintro e w43 ⟨rfl, hi, hb, hk⟩; refine ⟨_, rfl, ?_⟩; have _ := aM (KeepBut.blk hk (g' := gb335) (o := .cells #[.int .i64 0, .int .i64 0, .int .i64 0, .slice none 0 0, .slice none 0 0, .int .i64 0] 29 (0, 0)) (kA BK335.out) NB335_0.out (by simp)); have _ := aM (KeepBut.blk hk (g' := gb339) (o := .cells #[.int .i64 a1, .int .i64 t336, .int .i64 0, .slice none 0 0, .slice none 0 0, .int .i64 0] 29 (0, 0)) (kA BK339.out) NB339_0.out (by simp)); have _ := aM (KeepBut.trans (sG (w := w)) hk (.inl rfl)); have _ := aM (hb); have _ := aM (hi); clear BK335 BK339 HK HB HI0; rename_i BK335 BK339 HK HB HI0; (try clear hb); (try clear hk); (try clear hi)) | ((with_reducible refine gate_callee (f := 71) rfl ?_); refine gL (some 45) rfl rfl Try.func71 (by kernel_rfl) rfl #[.pointer (some ⟨g, 0, none⟩), .int .i64 t353] rfl ?_; (with_reducible refine (impl_taker_bits.calls kj3 g s0_0 t354 t355 t353 t356 t359 t360 w0 _ ?side1 ?side2 A42.out).mono ?_); (case side1 => exact sI66); (case side2 => exact (sB66 (B := w0.heap.size) (w0 := w0))); rintro e w44 ⟨v357, rfl, ho0, hi, hb, hk⟩; refine ⟨_, rfl, ?_⟩; have _ := aM (KeepBut.blk hk (g' := gb335) (o := .cells #[.int .i64 0, .int .i64 0, .int .i64 0, .slice none 0 0, .slice none 0 0, .int .i64 0] 29 (0, 0)) (kA BK335.out) NB335_0.out (by simp)); have _ := aM (KeepBut.blk hk (g' := gb339) (o := .cells #[.int .i64 a1, .int .i64 t336, .int .i64 0, .slice none 0 0, .slice none 0 0, .int .i64 0] 29 (0, 0)) (kA BK339.out) NB339_0.out (by simp)); have _ := aM (Kd.R_lower ho0 (keep_size (w := w) (g := g) (row := none) (sG (w := w)))); have _ := aM (KeepBut.trans (sG (w := w)) hk (.inl rfl)); have _ := aM (hb); have _ := aM (hi); clear BK335 BK339 HK HB HI0; rename_i BK335 BK339 HO358 HK HB HI0; (try clear hb); (try clear hk); (try clear hi); (try clear ho0); obtain ⟨Ao45, co45, eo45⟩ := Kd.R_slice HO358.out; subst eo45; have hnb46 := NB339_335.out; have hnc46 := NB335_339.out; have hnb47 := NB339_0.out; have hnc47 := NB0_339.out; obtain ⟨hcz48_0, hfz48_0, hcz48_1, hfz48_1, hcz48_2, hfz48_2, hcz48_3, hfz48_3, hcz48_4, hfz48_4, hcz48_5, hfz48_5⟩ := bk6 BK339.out; have hnb49 := NB335_0.out; have hnc49 := NB0_335.out; obtain ⟨hcz50_0, hfz50_0, hcz50_1, hfz50_1, hcz50_2, hfz50_2, hcz50_3, hfz50_3, hcz50_4, hfz50_4, hcz50_5, hfz50_5⟩ := bk6 BK335.out))
       refine bodyPost_ret (results_cell_row rfl _ _ gb335 29 #[.int .i64 a1, .int .i64 t336, .int .i64 0, .slice none 0 0, .slice Ao45 t356.length co45, .int .i64 0] (0, 0) _ rfl (kX BK335.out) Try.underlying29 rfl (by kernel_rfl)) rfl ?_
       exact ⟨_, _, by first | rfl | (simp [errW_none, errW_some] <;> rfl) | (simp [*, errW_none, errW_some] <;> rfl), by first | exact Kd.R_nil _ _ _ _ _ | exact Kd.N_nil _ _ _ _ _ | exact Kd.V_nil _ _ _ _ _ | exact Kd.Q_nil _ _ _ _ _ | exact Kd.S_nil _ _ _ _ _, by (with_reducible repeat (first | apply Kd.R_alloc | apply Kd.R_drewN | apply Kd.R_drew)); exact Kd.R_mono (Kd.R_far (p := ⟨gb335, 5, none⟩) (Kd.R_far (p := ⟨gb335, 4, none⟩) (Kd.R_far (p := ⟨gb335, 3, none⟩) (Kd.R_far (p := ⟨gb335, 2, none⟩) (Kd.R_far (p := ⟨gb335, 1, none⟩) (Kd.R_far (p := ⟨gb335, 0, none⟩) (Kd.R_far (p := ⟨gb339, 4, none⟩) (Kd.R_types (Kd.R_types HO358.out BK339.out (by decide)) BK335.out (by decide)) (fun _ hk => hk.1.2) (.slice Ao45 t356.length co45)) (fun _ hk => hk.2) (.int .i64 a1)) (fun _ hk => hk.2) (.int .i64 t336)) (fun _ hk => hk.2) (.int .i64 0)) (fun _ hk => hk.2) (.slice none 0 0)) (fun _ hk => hk.2) (.slice Ao45 t356.length co45)) (fun _ hk => hk.2) (.int .i64 0)) (fun _ hk => trivial), sI66, (sB66 (B := w0.heap.size) (w0 := w0)), (sG (w := w))⟩
      ·rw [if_neg c40] at H
       have c40b0 : (a1 == 15) = false := beq_eq_false_iff_ne.mpr c40
       have c40b1 : (a1 != 15) = true := bne_iff_ne.mpr c40
       by_cases c51 : a1 = 16
       ·rw [if_pos c51] at H
        have c51b0 : (a1 == 16) = true := beq_iff_eq.mpr c51
        have c51b1 : (a1 != 16) = false := bne_eq_false_iff_eq.mpr c51
        clear c51
        replace H := Option.bind_eq_some_iff.mp H
        obtain ⟨⟨t361, t362, t363⟩, A520, H⟩ := H
        (try dsimp only at H)
        have A52 := aM A520
        clear A520
        replace H := Option.bind_eq_some_iff.mp H
        obtain ⟨⟨t364, t367, t368⟩, A530, H⟩ := H
        (try dsimp only at H)
        have A53 := aM A530
        clear A530
        simp only [Option.some.injEq, Prod.mk.injEq] at H
        obtain ⟨rfl, rfl, rfl, rfl, rfl, rfl, rfl, rfl⟩ := H
        go_wp2_with (first | ((with_reducible refine gate_callee (f := 68) rfl ?_); refine gL (some 51) rfl rfl Try.func68 (by kernel_rfl) rfl #[.pointer (some ⟨g, 0, none⟩)] rfl ?_; (with_reducible refine (impl_taker_word.calls g s0_0 t337 t338 t361 t362 t363 w0 _ ?side1 ?side2 A52.out).mono ?_); (case side1 => exact sI66); (case side2 => exact (sB66 (B := w0.heap.size) (w0 := w0))); rintro e w54 ⟨rfl, hi, hb, hk⟩; refine ⟨_, rfl, ?_⟩; have _ := aM (KeepBut.blk hk (g' := gb335) (o := .cells #[.int .i64 0, .int .i64 0, .int .i64 0, .slice none 0 0, .slice none 0 0, .int .i64 0] 29 (0, 0)) (kA BK335.out) NB335_0.out (by simp)); have _ := aM (KeepBut.blk hk (g' := gb339) (o := .cells #[.int .i64 a1, .int .i64 t336, .int .i64 0, .slice none 0 0, .slice none 0 0, .int .i64 0] 29 (0, 0)) (kA BK339.out) NB339_0.out (by simp)); have _ := aM (KeepBut.trans (sG (w := w)) hk (.inl rfl)); have _ := aM (hb); have _ := aM (hi); clear BK335 BK339 HK HB HI0; rename_i BK335 BK339 HK HB HI0; (try clear hb); (try clear hk); (try clear hi)) | ((with_reducible refine gate_callee (f := 72) rfl ?_); refine gL (some 52) rfl rfl Try.func72 (by kernel_rfl) rfl #[.pointer (some ⟨g, 0, none⟩), .int .i64 t361] rfl ?_; (with_reducible refine (impl_taker_countedWords.calls kj3 g s0_0 t362 t363 t361 t364 t367 t368 w0 _ ?side1 ?side2 A53.out).mono ?_); (case side1 => exact sI66); (case side2 => exact (sB66 (B := w0.heap.size) (w0 := w0))); rintro e w55 ⟨v365, rfl, ho0, hi, hb, hk⟩; refine ⟨_, rfl, ?_⟩; have _ := aM (KeepBut.blk hk (g' := gb335) (o := .cells #[.int .i64 0, .int .i64 0, .int .i64 0, .slice none 0 0, .slice none 0 0, .int .i64 0] 29 (0, 0)) (kA BK335.out) NB335_0.out (by simp)); have _ := aM (KeepBut.blk hk (g' := gb339) (o := .cells #[.int .i64 a1, .int .i64 t336, .int .i64 0, .slice none 0 0, .slice none 0 0, .int .i64 0] 29 (0, 0)) (kA BK339.out) NB339_0.out (by simp)); have _ := aM (Kd.R_lower ho0 (keep_size (w := w) (g := g) (row := none) (sG (w := w)))); have _ := aM (KeepBut.trans (sG (w := w)) hk (.inl rfl)); have _ := aM (hb); have _ := aM (hi); clear BK335 BK339 HK HB HI0; rename_i BK335 BK339 HO366 HK HB HI0; (try clear hb); (try clear hk); (try clear hi); (try clear ho0); obtain ⟨Ao56, co56, eo56⟩ := Kd.R_slice HO366.out; subst eo56; have hnb57 := NB339_335.out; have hnc57 := NB335_339.out; have hnb58 := NB339_0.out; have hnc58 := NB0_339.out; obtain ⟨hcz59_0, hfz59_0, hcz59_1, hfz59_1, hcz59_2, hfz59_2, hcz59_3, hfz59_3, hcz59_4, hfz59_4, hcz59_5, hfz59_5⟩ := bk6 BK339.out; have hnb60 := NB335_0.out; have hnc60 := NB0_335.out; obtain ⟨hcz61_0, hfz61_0, hcz61_1, hfz61_1, hcz61_2, hfz61_2, hcz61_3, hfz61_3, hcz61_4, hfz61_4, hcz61_5, hfz61_5⟩ := bk6 BK335.out))
        refine bodyPost_ret (results_cell_row rfl _ _ gb335 29 #[.int .i64 a1, .int .i64 t336, .int .i64 0, .slice Ao56 t364.length co56, .slice none 0 0, .int .i64 0] (0, 0) _ rfl (kX BK335.out) Try.underlying29 rfl (by kernel_rfl)) rfl ?_
        exact ⟨_, _, by first | rfl | (simp [errW_none, errW_some] <;> rfl) | (simp [*, errW_none, errW_some] <;> rfl), by (with_reducible repeat (first | apply Kd.R_alloc | apply Kd.R_drewN | apply Kd.R_drew)); exact Kd.R_mono (Kd.R_far (p := ⟨gb335, 5, none⟩) (Kd.R_far (p := ⟨gb335, 4, none⟩) (Kd.R_far (p := ⟨gb335, 3, none⟩) (Kd.R_far (p := ⟨gb335, 2, none⟩) (Kd.R_far (p := ⟨gb335, 1, none⟩) (Kd.R_far (p := ⟨gb335, 0, none⟩) (Kd.R_far (p := ⟨gb339, 3, none⟩) (Kd.R_types (Kd.R_types HO366.out BK339.out (by decide)) BK335.out (by decide)) (fun _ hk => hk.1.2) (.slice Ao56 t364.length co56)) (fun _ hk => hk.2) (.int .i64 a1)) (fun _ hk => hk.2) (.int .i64 t336)) (fun _ hk => hk.2) (.int .i64 0)) (fun _ hk => hk.2) (.slice Ao56 t364.length co56)) (fun _ hk => hk.2) (.slice none 0 0)) (fun _ hk => hk.2) (.int .i64 0)) (fun _ hk => trivial), by first | exact Kd.R_nil _ _ _ _ _ | exact Kd.N_nil _ _ _ _ _ | exact Kd.V_nil _ _ _ _ _ | exact Kd.Q_nil _ _ _ _ _ | exact Kd.S_nil _ _ _ _ _, sI66, (sB66 (B := w0.heap.size) (w0 := w0)), (sG (w := w))⟩
       ·rw [if_neg c51] at H
        have c51b0 : (a1 == 16) = false := beq_eq_false_iff_ne.mpr c51
        have c51b1 : (a1 != 16) = true := bne_iff_ne.mpr c51
        by_cases c62 : a1 = 22
        rotate_left
        ·rw [if_neg c62] at H
         have c62b0 : (a1 == 22) = false := beq_eq_false_iff_ne.mpr c62
         have c62b1 : (a1 != 22) = true := bne_iff_ne.mpr c62
         replace H := Option.bind_eq_some_iff.mp H
         obtain ⟨⟨t374, t375, t376⟩, A710, H⟩ := H
         (try dsimp only at H)
         have A71 := aM A710
         clear A710
         replace H := Option.bind_eq_some_iff.mp H
         obtain ⟨⟨t377, t378, t379⟩, A720, H⟩ := H
         (try dsimp only at H)
         have A72 := aM A720
         clear A720
         replace H := Option.bind_eq_some_iff.mp H
         obtain ⟨⟨t380, t381, t382⟩, A730, H⟩ := H
         (try dsimp only at H)
         have A73 := aM A730
         clear A730
         replace H := Option.bind_eq_some_iff.mp H
         obtain ⟨⟨t383, t386, t387⟩, A740, H⟩ := H
         (try dsimp only at H)
         have A74 := aM A740
         clear A740
         simp only [Option.some.injEq, Prod.mk.injEq] at H
         obtain ⟨rfl, rfl, rfl, rfl, rfl, rfl, rfl, rfl⟩ := H
         go_wp2_with (first | ((with_reducible refine gate_callee (f := 68) rfl ?_); refine gL (some 12) rfl rfl Try.func68 (by kernel_rfl) rfl #[.pointer (some ⟨g, 0, none⟩)] rfl ?_; (with_reducible refine (impl_taker_word.calls g s0_0 t337 t338 t374 t375 t376 w0 _ ?side1 ?side2 A71.out).mono ?_); (case side1 => exact sI66); (case side2 => exact (sB66 (B := w0.heap.size) (w0 := w0))); rintro e w75 ⟨rfl, hi, hb, hk⟩; refine ⟨_, rfl, ?_⟩; have _ := aM (KeepBut.blk hk (g' := gb335) (o := .cells #[.int .i64 0, .int .i64 0, .int .i64 0, .slice none 0 0, .slice none 0 0, .int .i64 0] 29 (0, 0)) (kA BK335.out) NB335_0.out (by simp)); have _ := aM (KeepBut.blk hk (g' := gb339) (o := .cells #[.int .i64 a1, .int .i64 t336, .int .i64 0, .slice none 0 0, .slice none 0 0, .int .i64 0] 29 (0, 0)) (kA BK339.out) NB339_0.out (by simp)); have _ := aM (KeepBut.trans (sG (w := w)) hk (.inl rfl)); have _ := aM (hb); have _ := aM (hi); clear BK335 BK339 HK HB HI0; rename_i BK335 BK339 HK HB HI0; (try clear hb); (try clear hk); (try clear hi); have hnb76 := NB339_335.out; have hnc76 := NB335_339.out; have hnb77 := NB339_0.out; have hnc77 := NB0_339.out; obtain ⟨hcz78_0, hfz78_0, hcz78_1, hfz78_1, hcz78_2, hfz78_2, hcz78_3, hfz78_3, hcz78_4, hfz78_4, hcz78_5, hfz78_5⟩ := bk6 BK339.out) | ((with_reducible refine gate_callee (f := 68) rfl ?_); refine gL (some 15) rfl rfl Try.func68 (by kernel_rfl) rfl #[.pointer (some ⟨g, 0, none⟩)] rfl ?_; (with_reducible refine (impl_taker_word.calls g s0_0 t375 t376 t377 t378 t379 w0 _ ?side1 ?side2 A72.out).mono ?_); (case side1 => exact sI66); (case side2 => exact (sB66 (B := w0.heap.size) (w0 := w0))); rintro e w79 ⟨rfl, hi, hb, hk⟩; refine ⟨_, rfl, ?_⟩; have _ := aM (KeepBut.blk hk (g' := gb335) (o := .cells #[.int .i64 0, .int .i64 0, .int .i64 0, .slice none 0 0, .slice none 0 0, .int .i64 0] 29 (0, 0)) (kF1 BK335.out NB335_339.out) NB335_0.out (by simp)); have _ := aM (KeepBut.blk hk (g' := gb339) (o := .cells #[.int .i64 a1, .int .i64 t336, .int .i64 t374, .slice none 0 0, .slice none 0 0, .int .i64 0] 29 (0, 0)) (kX BK339.out) NB339_0.out (by simp)); have _ := aM (KeepBut.trans (sG (w := w)) hk (.inl rfl)); have _ := aM (hb); have _ := aM (hi); clear BK335 BK339 HK HB HI0; rename_i BK335 BK339 HK HB HI0; (try clear hb); (try clear hk); (try clear hi); obtain ⟨hcz80_0, hfz80_0, hcz80_1, hfz80_1, hcz80_2, hfz80_2, hcz80_3, hfz80_3, hcz80_4, hfz80_4, hcz80_5, hfz80_5⟩ := bk6 BK339.out) | ((with_reducible refine gate_callee (f := 68) rfl ?_); refine gL (some 19) rfl rfl Try.func68 (by kernel_rfl) rfl #[.pointer (some ⟨g, 0, none⟩)] rfl ?_; (with_reducible refine (impl_taker_word.calls g s0_0 t378 t379 t380 t381 t382 w0 _ ?side1 ?side2 A73.out).mono ?_); (case side1 => exact sI66); (case side2 => exact (sB66 (B := w0.heap.size) (w0 := w0))); rintro e w81 ⟨rfl, hi, hb, hk⟩; refine ⟨_, rfl, ?_⟩; have _ := aM (KeepBut.blk hk (g' := gb335) (o := .cells #[.int .i64 0, .int .i64 0, .int .i64 0, .slice none 0 0, .slice none 0 0, .int .i64 0] 29 (0, 0)) (kF1 BK335.out NB335_339.out) NB335_0.out (by simp)); have _ := aM (KeepBut.blk hk (g' := gb339) (o := .cells #[.int .i64 a1, .int .i64 t336, .int .i64 t374, .slice none 0 0, .slice none 0 0, .int .i64 t377] 29 (0, 0)) (kX BK339.out) NB339_0.out (by simp)); have _ := aM (KeepBut.trans (sG (w := w)) hk (.inl rfl)); have _ := aM (hb); have _ := aM (hi); clear BK335 BK339 HK HB HI0; rename_i BK335 BK339 HK HB HI0; (try clear hb); (try clear hk); (try clear hi)) | ((with_reducible refine gate_callee (f := 72) rfl ?_); refine gL (some 20) rfl rfl Try.func72 (by kernel_rfl) rfl #[.pointer (some ⟨g, 0, none⟩), .int .i64 t380] rfl ?_; (with_reducible refine (impl_taker_countedWords.calls kj3 g s0_0 t381 t382 t380 t383 t386 t387 w0 _ ?side1 ?side2 A74.out).mono ?_); (case side1 => exact sI66); (case side2 => exact (sB66 (B := w0.heap.size) (w0 := w0))); rintro e w82 ⟨v384, rfl, ho0, hi, hb, hk⟩; refine ⟨_, rfl, ?_⟩; have _ := aM (KeepBut.blk hk (g' := gb335) (o := .cells #[.int .i64 0, .int .i64 0, .int .i64 0, .slice none 0 0, .slice none 0 0, .int .i64 0] 29 (0, 0)) (kA BK335.out) NB335_0.out (by simp)); have _ := aM (KeepBut.blk hk (g' := gb339) (o := .cells #[.int .i64 a1, .int .i64 t336, .int .i64 t374, .slice none 0 0, .slice none 0 0, .int .i64 t377] 29 (0, 0)) (kA BK339.out) NB339_0.out (by simp)); have _ := aM (Kd.R_lower ho0 (keep_size (w := w) (g := g) (row := none) (sG (w := w)))); have _ := aM (KeepBut.trans (sG (w := w)) hk (.inl rfl)); have _ := aM (hb); have _ := aM (hi); clear BK335 BK339 HK HB HI0; rename_i BK335 BK339 HO385 HK HB HI0; (try clear hb); (try clear hk); (try clear hi); (try clear ho0); obtain ⟨Ao83, co83, eo83⟩ := Kd.R_slice HO385.out; subst eo83; obtain ⟨hcz84_0, hfz84_0, hcz84_1, hfz84_1, hcz84_2, hfz84_2, hcz84_3, hfz84_3, hcz84_4, hfz84_4, hcz84_5, hfz84_5⟩ := bk6 BK339.out; have hnb85 := NB335_0.out; have hnc85 := NB0_335.out; obtain ⟨hcz86_0, hfz86_0, hcz86_1, hfz86_1, hcz86_2, hfz86_2, hcz86_3, hfz86_3, hcz86_4, hfz86_4, hcz86_5, hfz86_5⟩ := bk6 BK335.out))
         refine bodyPost_ret (results_cell_row rfl _ _ gb335 29 #[.int .i64 a1, .int .i64 t336, .int .i64 t374, .slice Ao83 t383.length co83, .slice none 0 0, .int .i64 t377] (0, 0) _ rfl (kX BK335.out) Try.underlying29 rfl (by kernel_rfl)) rfl ?_
         exact ⟨_, _, by first | rfl | (simp [errW_none, errW_some] <;> rfl) | (simp [*, errW_none, errW_some] <;> rfl), by (with_reducible repeat (first | apply Kd.R_alloc | apply Kd.R_drewN | apply Kd.R_drew)); exact Kd.R_mono (Kd.R_far (p := ⟨gb335, 5, none⟩) (Kd.R_far (p := ⟨gb335, 4, none⟩) (Kd.R_far (p := ⟨gb335, 3, none⟩) (Kd.R_far (p := ⟨gb335, 2, none⟩) (Kd.R_far (p := ⟨gb335, 1, none⟩) (Kd.R_far (p := ⟨gb335, 0, none⟩) (Kd.R_far (p := ⟨gb339, 3, none⟩) (Kd.R_types (Kd.R_types HO385.out BK339.out (by decide)) BK335.out (by decide)) (fun _ hk => hk.1.2) (.slice Ao83 t383.length co83)) (fun _ hk => hk.2) (.int .i64 a1)) (fun _ hk => hk.2) (.int .i64 t336)) (fun _ hk => hk.2) (.int .i64 t374)) (fun _ hk => hk.2) (.slice Ao83 t383.length co83)) (fun _ hk => hk.2) (.slice none 0 0)) (fun _ hk => hk.2) (.int .i64 t377)) (fun _ hk => trivial), by first | exact Kd.R_nil _ _ _ _ _ | exact Kd.N_nil _ _ _ _ _ | exact Kd.V_nil _ _ _ _ _ | exact Kd.Q_nil _ _ _ _ _ | exact Kd.S_nil _ _ _ _ _, sI66, (sB66 (B := w0.heap.size) (w0 := w0)), (sG (w := w))⟩
        rw [if_pos c62] at H
        have c62b0 : (a1 == 22) = true := beq_iff_eq.mpr c62
        have c62b1 : (a1 != 22) = false := bne_eq_false_iff_eq.mpr c62
        clear c62
        replace H := Option.bind_eq_some_iff.mp H
        obtain ⟨⟨t369, t372, t373⟩, A630, H⟩ := H
        (try dsimp only at H)
        have A63 := aM A630
        clear A630
        simp only [Option.some.injEq, Prod.mk.injEq] at H
        obtain ⟨rfl, rfl, rfl, rfl, rfl, rfl, rfl, rfl⟩ := H
        go_wp2_with (first | ((with_reducible refine gate_callee (f := 70) rfl ?_); refine gL (some 57) rfl rfl Try.func70 (by kernel_rfl) rfl #[.pointer (some ⟨g, 0, none⟩), .int .i64 2] rfl ?_; (with_reducible refine (impl_taker_words.calls kj3 g s0_0 t337 t338 2 t369 t372 t373 w0 _ ?side1 ?side2 A63.out).mono ?_); (case side1 => exact sI66); (case side2 => exact (sB66 (B := w0.heap.size) (w0 := w0))); rintro e w64 ⟨v370, rfl, ho0, hi, hb, hk⟩; refine ⟨_, rfl, ?_⟩; have _ := aM (KeepBut.blk hk (g' := gb335) (o := .cells #[.int .i64 0, .int .i64 0, .int .i64 0, .slice none 0 0, .slice none 0 0, .int .i64 0] 29 (0, 0)) (kA BK335.out) NB335_0.out (by simp)); have _ := aM (KeepBut.blk hk (g' := gb339) (o := .cells #[.int .i64 a1, .int .i64 t336, .int .i64 0, .slice none 0 0, .slice none 0 0, .int .i64 0] 29 (0, 0)) (kA BK339.out) NB339_0.out (by simp)); have _ := aM (Kd.R_lower ho0 (keep_size (w := w) (g := g) (row := none) (sG (w := w)))); have _ := aM (KeepBut.trans (sG (w := w)) hk (.inl rfl)); have _ := aM (hb); have _ := aM (hi); clear BK335 BK339 HK HB HI0; rename_i BK335 BK339 HO371 HK HB HI0; (try clear hb); (try clear hk); (try clear hi); (try clear ho0); obtain ⟨Ao65, co65, eo65⟩ := Kd.R_slice HO371.out; subst eo65; have hnb66 := NB339_335.out; have hnc66 := NB335_339.out; have hnb67 := NB339_0.out; have hnc67 := NB0_339.out; obtain ⟨hcz68_0, hfz68_0, hcz68_1, hfz68_1, hcz68_2, hfz68_2, hcz68_3, hfz68_3, hcz68_4, hfz68_4, hcz68_5, hfz68_5⟩ := bk6 BK339.out; have hnb69 := NB335_0.out; have hnc69 := NB0_335.out; obtain ⟨hcz70_0, hfz70_0, hcz70_1, hfz70_1, hcz70_2, hfz70_2, hcz70_3, hfz70_3, hcz70_4, hfz70_4, hcz70_5, hfz70_5⟩ := bk6 BK335.out))
        refine bodyPost_ret (results_cell_row rfl _ _ gb335 29 #[.int .i64 a1, .int .i64 t336, .int .i64 0, .slice Ao65 t369.length co65, .slice none 0 0, .int .i64 0] (0, 0) _ rfl (kX BK335.out) Try.underlying29 rfl (by kernel_rfl)) rfl ?_
        exact ⟨_, _, by first | rfl | (simp [errW_none, errW_some] <;> rfl) | (simp [*, errW_none, errW_some] <;> rfl), by (with_reducible repeat (first | apply Kd.R_alloc | apply Kd.R_drewN | apply Kd.R_drew)); exact Kd.R_mono (Kd.R_far (p := ⟨gb335, 5, none⟩) (Kd.R_far (p := ⟨gb335, 4, none⟩) (Kd.R_far (p := ⟨gb335, 3, none⟩) (Kd.R_far (p := ⟨gb335, 2, none⟩) (Kd.R_far (p := ⟨gb335, 1, none⟩) (Kd.R_far (p := ⟨gb335, 0, none⟩) (Kd.R_far (p := ⟨gb339, 3, none⟩) (Kd.R_types (Kd.R_types HO371.out BK339.out (by decide)) BK335.out (by decide)) (fun _ hk => hk.1.2) (.slice Ao65 t369.length co65)) (fun _ hk => hk.2) (.int .i64 a1)) (fun _ hk => hk.2) (.int .i64 t336)) (fun _ hk => hk.2) (.int .i64 0)) (fun _ hk => hk.2) (.slice Ao65 t369.length co65)) (fun _ hk => hk.2) (.slice none 0 0)) (fun _ hk => hk.2) (.int .i64 0)) (fun _ hk => trivial), by first | exact Kd.R_nil _ _ _ _ _ | exact Kd.N_nil _ _ _ _ _ | exact Kd.V_nil _ _ _ _ _ | exact Kd.Q_nil _ _ _ _ _ | exact Kd.S_nil _ _ _ _ _, sI66, (sB66 (B := w0.heap.size) (w0 := w0)), (sG (w := w))⟩
end Go.Proofs.Yteoghpcgompajaa.G
