/- Contracts of functions, for more than one law: what they compute. -/
import Derived.Test.YteoghpcgompajaaM
import Derived.Test.YteoghpcgompajaaProg
import Derived.Test.YteoghpcgompajaaWMore
import Derived.Test.YteoghpcgompajaaWRepsOne
import Derived.Test.YteoghpcgompajaaWTab
import Derived.WalkSpells
import Derived.Test.YteoghpcgompajaaL
import Derived.Below
import Derived.Deep.Draws
import Derived.Deep.AppendLies
import Derived.Maps.AppendAt
import Derived.OwnWalk
import Derived.Laws.BytesArg
import Derived.Laws.MakeOwn
import Derived.Laws.OwnMore
import Derived.Deep.OwnRows
import Derived.Tactics
import Derived.Lib.ConvBytes
import Derived.Laws.Slices
import Derived.WalkKit
import Derived.KernelRfl
import Derived.RowKit3
import Derived.Deep.LoopGhost
import Derived.Deep.QuietTactic
import Derived.BigQuiet
import Derived.WideLaws
import Derived.Deep.DeepCutAuto
import Derived.Deep.CutBlock
import Derived.Deep.RegionHeld3
import Derived.Laws.Rows
import Derived.Lib.AppendStr
import Derived.ArgAppend
import Derived.Laws.IdiomCopy
import Derived.OrdersHeld
import Derived.Laws.BitsLemmas
import Derived.RowKit
import Derived.Test.YteoghpcgompajaaWWords
import Derived.Test.YteoghpcgompajaaWLast
import Derived.Test.YteoghpcgompajaaWFour
import Derived.Test.YteoghpcgompajaaWQPut
import Derived.Test.YteoghpcgompajaaWApart
import Derived.Test.YteoghpcgompajaaWArr
import Derived.Test.YteoghpcgompajaaWZeros
import Derived.Test.YteoghpcgompajaaWFoot
import Derived.Test.YteoghpcgompajaaWKept
import Derived.Test.YteoghpcgompajaaWShare
import Derived.Test.YteoghpcgompajaaWN
import Derived.Test.YteoghpcgompajaaWFootNe
import Derived.Test.YteoghpcgompajaaWAt
import Derived.Test.YteoghpcgompajaaWEqStruct
import Derived.Test.YteoghpcgompajaaWInv
import Derived.Test.YteoghpcgompajaaWInvWords
import Derived.Test.YteoghpcgompajaaWGuard
import Derived.Test.YteoghpcgompajaaWNEv
import Derived.Test.YteoghpcgompajaaGTaker
namespace Go.Proofs.Yteoghpcgompajaa.G
open Go.Proofs.Yteoghpcgompajaa.K Go Go.RowKit Go.Proofs.YteoghpcgompajaaW.PrintWords Go.Proofs.YteoghpcgompajaaW.PrintLast Go.Proofs.YteoghpcgompajaaW.PrintMore
attribute [local go_sem] max2_int min2_int max_two min_two max_three min_three max_four min_four   -- for this text's walks alone
set_option linter.unusedVariables false
set_option linter.unusedSimpArgs false

theorem info3 : (Try.prog.info? 3).map (fun i => (i.zero, i.size, i.bytes)) = some (some (.int .i64 0), 1, 8) := by kernel_rfl
/-! ### impl_taker_words: function 70 -/
def impl_taker_words.l0 : Nat → Int → List Int → Int → List Int → Int → Bool → Option (List Int × Int × Bool)
 | 0, _, _, _, _, _, _ => none
 | k + 1, x1, x5, x6, x1000, x1001, x1002 => if x6 < x1 then (if x1002 = true then (some (x5, x1001, x1002)) else ((impl_taker_word.f x1000 x1001 x1002).bind fun bt347 => (if x5.length < 17592186044416 then (impl_taker_words.l0 k x1 (x5 ++ [bt347.1]) (wrap64 (x6 + 1)) x1000 bt347.2.1 bt347.2.2) else (none)))) else (some (x5, x1001, x1002))
def impl_taker_words.f (k : Nat) (s0_0 : List Int) (s0_1 : Int) (s0_2 : Bool) (a1 : Int) : Option (List Int × Int × Bool) := impl_taker_words.l0 k a1 ([] : List Int) 0 s0_0 s0_1 s0_2
theorem impl_taker_words.mono_l : ∀ k, (∀ y0 y1 y2 y3 y4 y5, LeO (impl_taker_words.l0 k y0 y1 y2 y3 y4 y5) (impl_taker_words.l0 (k + 1) y0 y1 y2 y3 y4 y5))
 | 0 => fun _ _ _ _ _ _ r h => by simp [impl_taker_words.l0] at h
 | k + 1 => by
  have ih0 := impl_taker_words.mono_l k
  ·intro y0 y1 y2 y3 y4 y5
   unfold impl_taker_words.l0
   repeat' first
   | (with_reducible exact ih0 _ _ _ _ _ _)
   | (with_reducible exact LeO.refl _)
   | (with_reducible exact LeO.none _)
   | (with_reducible refine LeO.ite ?_ ?_)
   | (with_reducible refine LeO.bind ?_ (fun _ => ?_))
   | exact ih0 _ _ _ _ _ _
   | exact LeO.none _
   | refine LeO.ite ?_ ?_
   | refine LeO.bind ?_ (fun _ => ?_)
theorem impl_taker_words.mono : ∀ a0 a1 a2 a3 k, LeO (impl_taker_words.f k a0 a1 a2 a3) (impl_taker_words.f (k + 1) a0 a1 a2 a3) := by
 intro a0 a1 a2 a3 k
 have ih0 := impl_taker_words.mono_l k
 unfold impl_taker_words.f
 repeat' first
   | (with_reducible exact ih0 _ _ _ _ _ _)
   | (with_reducible exact LeO.refl _)
   | (with_reducible exact LeO.none _)
   | (with_reducible refine LeO.ite ?_ ?_)
   | (with_reducible refine LeO.bind ?_ (fun _ => ?_))
   | exact ih0 _ _ _ _ _ _
   | exact LeO.none _
   | refine LeO.ite ?_ ?_
   | refine LeO.bind ?_ (fun _ => ?_)
set_option maxHeartbeats 8000000 in
set_option maxRecDepth 100000 in
theorem impl_taker_words.calls (k : Nat) (g : Nat) (s0_0 : List Int) (s0_1 : Int) (s0_2 : Bool) (a1 : Int) (r1 : List Int) (r2 : Int) (r3 : Bool) (w0 w : World) (hI : IsS66 w0 w g s0_0 s0_1 s0_2) (hB : Below w0.heap.size w0 w) (h : impl_taker_words.f k s0_0 s0_1 s0_2 a1 = some (r1, r2, r3)) :
  Calls Try.prog 70 #[.pointer (some ⟨g, 0, none⟩), .int .i64 a1] w fun e w' => ∃ v0_ : Value, e = .returned (v0_) ∧ Kd.R (Kd.int .i64) 3 w' w.heap.size (fun _ => True) v0_ r1 ∧ IsS66 w0 w' g s0_0 r2 r3 ∧ Below w0.heap.size w0 w' ∧ KeepBut w w' g none := by
 have HI0 := aM hI
 have HK := aM (KeepBut.refl w g none)
 have HL := aM hB.size
 clear hI
 have HW0 := aM hB.size
 have HB := aM hB
 clear hB
 have H : (impl_taker_words.l0 k a1 ([] : List Int) 0 s0_0 s0_1 s0_2) = some (r1, r2, r3) := h
 clear h
 have H' := aM H
 clear H
 go_enter Try.func70, Try.ntmps70
 go_wp2
 go_loopg [5, 6] k (fun kq v5 v6 w' => ∃ (x5_1 : List Int) (x6_1 : Int) (x1001_1 : Int) (x1002_1 : Bool), v6 = .int .i64 x6_1 ∧ Aside0 (impl_taker_words.l0 kq a1 x5_1 x6_1 s0_0 x1001_1 x1002_1 = some (r1, r2, r3)) ∧ Aside0 (kq ≤ k) ∧ Aside0 (Kd.R (Kd.int .i64) 3 w' w.heap.size (fun _ => True) v5 x5_1) ∧ Aside0 (IsS66 w0 w' g s0_0 x1001_1 x1002_1) ∧ Aside0 (KeepBut w w' g none) ∧ Aside0 (Below w0.heap.size w0 w'))
 case atStart => exact ⟨(([] : List Int)), (0), (s0_1), (s0_2), (by first | rfl | (simp; done) | (simp [*]; done)), H', ⟨Nat.le_refl _⟩, ⟨by first | exact Kd.R_nil _ _ _ _ _ | exact Kd.N_nil _ _ _ _ _ | exact Kd.V_nil _ _ _ _ _ | exact Kd.Q_nil _ _ _ _ _ | exact Kd.S_nil _ _ _ _ _⟩, ⟨sI66⟩, ⟨(sG (w := w))⟩, ⟨(sB66 (B := w0.heap.size) (w0 := w0))⟩⟩
 case round =>
  clear H'
  try clear p2
  obtain ⟨x5_1, x6_1, x1001_1, x1002_1, rfl, HA, HK1, HO_5, HI0, HK, HB⟩ := hrel
  cases gk with
  | zero => exact absurd HA.out (by simp [impl_taker_words.l0])
  | succ k1 =>
   have H := HA.out
   clear HA
   simp only [impl_taker_words.l0] at H
   by_cases c3 : x6_1 < a1
   rotate_left
   ·rw [if_neg c3] at H
    have c3b0 : decide (x6_1 < a1) = false := decide_eq_false c3
    clear c3
    simp only [Option.some.injEq, Prod.mk.injEq] at H
    obtain ⟨rfl, rfl, rfl⟩ := H
    go_wp2
    go_ret
    exact ⟨_, by first | rfl | (simp [errW_none, errW_some] <;> rfl) | (simp [*, errW_none, errW_some] <;> rfl), by (with_reducible repeat (first | apply Kd.R_alloc | apply Kd.R_drewN | apply Kd.R_drew)); exact HO_5.out, sI66, (sB66 (B := w0.heap.size) (w0 := w0)), (sG (w := w))⟩
   rw [if_pos c3] at H
   have c3b0 : decide (x6_1 < a1) = true := decide_eq_true c3
   clear c3
   by_cases c4 : x1002_1 = true
   ·subst c4
    rw [if_pos rfl] at H
    (try dsimp only at H)
    simp only [Option.some.injEq, Prod.mk.injEq] at H
    obtain ⟨rfl, rfl, rfl⟩ := H
    obtain ⟨ASz5_0, cSz5_0, HGz5, hgz5, HSz5_0⟩ := HI0.out
    have hcz5_0 := cellS66_0 HGz5
    have hcz5_1 := cellS66_1 HGz5
    have hcz5_2 := cellS66_2 HGz5
    have hfz5_1 := blk_frozen HGz5 1
    have hfz5_2 := blk_frozen HGz5 2
    clear HGz5 hgz5
    go_wp2
    go_ret
    exact ⟨_, by first | rfl | (simp [errW_none, errW_some] <;> rfl) | (simp [*, errW_none, errW_some] <;> rfl), by (with_reducible repeat (first | apply Kd.R_alloc | apply Kd.R_drewN | apply Kd.R_drew)); exact HO_5.out, sI66, (sB66 (B := w0.heap.size) (w0 := w0)), (sG (w := w))⟩
   ·replace c4 := Bool.eq_false_iff.mpr c4
    subst c4
    rw [if_neg (show ¬ (false = true) by decide)] at H
    (try dsimp only at H)
    replace H := Option.bind_eq_some_iff.mp H
    obtain ⟨⟨t347, t348, t349⟩, A60, H⟩ := H
    (try dsimp only at H)
    have A6 := aM A60
    clear A60
    by_cases c7 : x5_1.length < 17592186044416
    rotate_left
    ·rw [if_neg c7] at H
     exact absurd H (by simp)
    rw [if_pos c7] at H
    have LMc7 := aM c7
    clear c7
    obtain ⟨y350, hy350⟩ : ∃ y_ : List Int, y_ = (x5_1 ++ [t347]) := ⟨_, rfl⟩
    replace H : (impl_taker_words.l0 k1 a1 y350 (wrap64 (x6_1 + 1)) s0_0 t348 t349) = some (r1, r2, r3) := by first | (rw [hy350]; with_reducible exact H) | (have H2_ := (Option.bind_some _ _).symm.trans H; rw [hy350]; with_reducible exact H2_) | (have H2_ := (Option.bind_some _ _).symm.trans H; with_reducible exact H2_) | with_reducible exact H | (rw [hy350]; exact H) | exact H
    have Ny350 := aM hy350
    clear hy350
    have H' := aM H
    clear H
    obtain ⟨ASz8_0, cSz8_0, HGz8, hgz8, HSz8_0⟩ := HI0.out
    have hcz8_0 := cellS66_0 HGz8
    have hcz8_1 := cellS66_1 HGz8
    have hcz8_2 := cellS66_2 HGz8
    have hfz8_1 := blk_frozen HGz8 1
    have hfz8_2 := blk_frozen HGz8 2
    clear HGz8 hgz8
    go_wp2_with (first | ((with_reducible refine gate_callee (f := 68) rfl ?_); refine gL (some 21) rfl rfl Try.func68 (by kernel_rfl) rfl #[.pointer (some ⟨g, 0, none⟩)] rfl ?_; (with_reducible refine (impl_taker_word.calls g s0_0 x1001_1 false t347 t348 t349 w0 _ ?side1 ?side2 A6.out).mono ?_); (case side1 => exact sI66); (case side2 => exact (sB66 (B := w0.heap.size) (w0 := w0))); rintro e w9 ⟨rfl, hi, hb, hk⟩; refine ⟨_, rfl, ?_⟩; have _ := aM (rK66 HO_5.out hk); have _ := aM (KeepBut.trans (sG (w := w)) hk (.inl rfl)); have _ := aM (hb); have _ := aM (hi); clear HO_5 HK HB HI0; rename_i HO_5 HK HB HI0; (try clear hb); (try clear hk); (try clear hi)) | ((with_reducible refine gate_builtin (b := .append) (xs := #[.tmp 19, .tmp 22]) rfl ?_); at_builtin; refine Kd.R_append (Kd.int .i64) w.heap.size rfl (.tmp 19) (.tmp 22) 22 3 (.int .i64 0) 8 rfl Try.underlying22 info3 rfl (by decide) (by omega) u5 x5_1 t347 [.int .i64 t347] (fun _ => True) (fun _ => False) rfl rfl ?aP (fun _ hk => hk.elim) ?aF ?aO (Below.refl _ _) ?aS ?aL ?_; (case aP => exact rfl); (case aF => exact (fun _ _ => trivial)); (case aO => exact (rA HO_5.out)); (case aS => exact (keep_size (w := w) (g := g) (row := none) (sG (w := w)))); (case aL => have := LMc7.out; omega); intro v351 w10 ho hb hg hat; rw [← Ny350.out] at ho; have _ := aM (IsS66.grown sI66 hg (IsS66.own_ne HI0.out HO_5.out (by decide))); have _ := aM (below_weaken (sB66 (B := w0.heap.size) (w0 := w0)) HL.out hb); have _ := aM (KeepBut.trans (sG (w := w)) (KeepBut.of_grown hg g) (Kd.R_base2 HO_5.out)); have _ := aM (ho); clear HI0 HB HK HO_5; rename_i HI0 HB HK HO352; clear ho hb hg hat))
    go_roundg k1
    case measure => have := HK1.out; omega
    case rel => exact ⟨(y350), (wrap64 (x6_1 + 1)), (t348), (t349), (by first | rfl | (simp; done) | (simp [*]; done)), H', ⟨by have := HK1.out; omega⟩, ⟨by (with_reducible repeat (first | apply Kd.R_alloc | apply Kd.R_drewN | apply Kd.R_drew)); exact HO352.out⟩, ⟨sI66⟩, ⟨(sG (w := w))⟩, ⟨(sB66 (B := w0.heap.size) (w0 := w0))⟩⟩
/-! ### impl_taker_bit: function 69 -/
def impl_taker_bit.f (s0_0 : List Int) (s0_1 : Int) (s0_2 : Bool) : Option (List Bool × Int × Bool) := (impl_taker_word.f s0_0 s0_1 s0_2).bind fun bt335 => (if bt335.2.2 = true then (some ((([(bt335.1 != 0)] : List Bool)), bt335.2.1, true)) else (if bt335.1 = 0 then (some ((([(bt335.1 != 0)] : List Bool)), bt335.2.1, false)) else (some ((([(bt335.1 != 0)] : List Bool)), bt335.2.1, (bt335.1 != 65280)))))
set_option maxHeartbeats 8000000 in
set_option maxRecDepth 100000 in
theorem impl_taker_bit.calls (g : Nat) (s0_0 : List Int) (s0_1 : Int) (s0_2 : Bool) (r1 : List Bool) (r2 : Int) (r3 : Bool) (w0 w : World) (hI : IsS66 w0 w g s0_0 s0_1 s0_2) (hB : Below w0.heap.size w0 w) (h : impl_taker_bit.f s0_0 s0_1 s0_2 = some (r1, r2, r3)) :
  Calls Try.prog 69 #[.pointer (some ⟨g, 0, none⟩)] w fun e w' => ∃ v0_ : Value, e = .returned (v0_) ∧ Kd.R Kd.bool 4 w' w.heap.size (fun _ => True) v0_ r1 ∧ IsS66 w0 w' g s0_0 r2 r3 ∧ Below w0.heap.size w0 w' ∧ KeepBut w w' g none := by
 have HI0 := aM hI
 have HK := aM (KeepBut.refl w g none)
 have HL := aM hB.size
 clear hI
 have HW0 := aM hB.size
 have HB := aM hB
 clear hB
 have H : ((impl_taker_word.f s0_0 s0_1 s0_2).bind fun bt335 => (if bt335.2.2 = true then (some ((([(bt335.1 != 0)] : List Bool)), bt335.2.1, true)) else (if bt335.1 = 0 then (some ((([(bt335.1 != 0)] : List Bool)), bt335.2.1, false)) else (some ((([(bt335.1 != 0)] : List Bool)), bt335.2.1, (bt335.1 != 65280)))))) = some (r1, r2, r3) := h
 clear h
 replace H := Option.bind_eq_some_iff.mp H
 obtain ⟨⟨t335, t336, t337⟩, A20, H⟩ := H
 (try dsimp only at H)
 have A2 := aM A20
 clear A20
 by_cases c3 : t337 = true
 ·subst c3
  rw [if_pos rfl] at H
  (try dsimp only at H)
  obtain ⟨y338, hy338⟩ : ∃ y_ : List Bool, y_ = (([(t335 != 0)] : List Bool)) := ⟨_, rfl⟩
  replace H : (some (y338, t336, true)) = some (r1, r2, r3) := by first | (rw [hy338]; with_reducible exact H) | (have H2_ := (Option.bind_some _ _).symm.trans H; rw [hy338]; with_reducible exact H2_) | (have H2_ := (Option.bind_some _ _).symm.trans H; with_reducible exact H2_) | with_reducible exact H | (rw [hy338]; exact H) | exact H
  have Ny338 := aM hy338
  clear hy338
  simp only [Option.some.injEq, Prod.mk.injEq] at H
  obtain ⟨rfl, rfl, rfl⟩ := H
  go_enter Try.func69, Try.ntmps69
  go_wp2_with (first | ((with_reducible refine gate_callee (f := 68) rfl ?_); refine gL (some 5) rfl rfl Try.func68 (by kernel_rfl) rfl #[.pointer (some ⟨g, 0, none⟩)] rfl ?_; (with_reducible refine (impl_taker_word.calls g s0_0 s0_1 s0_2 t335 t336 true w0 _ ?side1 ?side2 A2.out).mono ?_); (case side1 => exact sI66); (case side2 => exact (sB66 (B := w0.heap.size) (w0 := w0))); rintro e w4 ⟨rfl, hi, hb, hk⟩; refine ⟨_, rfl, ?_⟩; have _ := aM (KeepBut.trans (sG (w := w)) hk (.inl rfl)); have _ := aM (hb); have _ := aM (hi); clear HK HB HI0; rename_i HK HB HI0; (try clear hb); (try clear hk); (try clear hi); obtain ⟨ASz5_0, cSz5_0, HGz5, hgz5, HSz5_0⟩ := HI0.out; have hcz5_0 := cellS66_0 HGz5; have hcz5_1 := cellS66_1 HGz5; have hcz5_2 := cellS66_2 HGz5; have hfz5_1 := blk_frozen HGz5 1; have hfz5_2 := blk_frozen HGz5 2; clear HGz5 hgz5) | ((with_reducible refine gate_dst (N := 23) rfl ?_); refine Kd.R_lit Kd.bool _ 4 ?hg (N := 23) ?hd (xs := ([(t335 != 0)] : List Bool)) (inner := [.bool (t335 != 0)]) (ok := fun _ => True) (okp := fun _ => True) ?hr ?hp (fun _ hk => hk) trivial (Below.refl _ _) (Nat.le_refl _) (by simp) ?_; (case hd => rfl); (case hg => rfl); (case hr => first | (go_simp; done) | (go_simp; rfl)); (case hp => exact (Reps.one (show Kd.M Kd.bool _ _ _ (t335 != 0) [.bool (t335 != 0)] from rfl) (Reps.none _ _))); intro v339 w6 ho7 hb hg_ hnew_; clear hg_ hnew_; (first | rw [← Ny338.out] at ho7 | (simp only [Int.reduceToNat] at ho7; rw [← Ny338.out] at ho7)); have _ := aM (Kd.R_lower ho7 (keep_size (w := w) (g := g) (row := none) (sG (w := w)))); have _ := aM (IsS66.below (show IsS66 w0 (w4.setCell ⟨g, 2, none⟩ (.bool true)) g s0_0 t336 true from sI66) hb); have _ := aM (KeepBut.trans (sG (w := w)) (KeepBut.of_below hb g none) (.inl rfl)); have _ := aM (below_step (sB66 (B := w0.heap.size) (w0 := w0)) hb); clear HI0 HK HB; rename_i HO340 HI0 HK HB; clear hb ho7))
  go_ret
  exact ⟨_, by first | rfl | (simp [errW_none, errW_some] <;> rfl) | (simp [*, errW_none, errW_some] <;> rfl), by (with_reducible repeat (first | apply Kd.R_alloc | apply Kd.R_drewN | apply Kd.R_drew)); exact HO340.out, sI66, (sB66 (B := w0.heap.size) (w0 := w0)), (sG (w := w))⟩
 ·replace c3 := Bool.eq_false_iff.mpr c3
  subst c3
  rw [if_neg (show ¬ (false = true) by decide)] at H
  (try dsimp only at H)
  by_cases c8 : t335 = 0
  rotate_left
  ·rw [if_neg c8] at H
   have c8b0 : (t335 == 0) = false := beq_eq_false_iff_ne.mpr c8
   have c8b1 : (t335 != 0) = true := bne_iff_ne.mpr c8
   obtain ⟨y344, hy344⟩ : ∃ y_ : List Bool, y_ = (([(t335 != 0)] : List Bool)) := ⟨_, rfl⟩
   replace H : (some (y344, t336, (t335 != 65280))) = some (r1, r2, r3) := by first | (rw [hy344]; with_reducible exact H) | (have H2_ := (Option.bind_some _ _).symm.trans H; rw [hy344]; with_reducible exact H2_) | (have H2_ := (Option.bind_some _ _).symm.trans H; with_reducible exact H2_) | with_reducible exact H | (rw [hy344]; exact H) | exact H
   have Ny344 := aM hy344
   clear hy344
   simp only [Option.some.injEq, Prod.mk.injEq] at H
   obtain ⟨rfl, rfl, rfl⟩ := H
   go_enter Try.func69, Try.ntmps69
   go_wp2_with (first | ((with_reducible refine gate_callee (f := 68) rfl ?_); refine gL (some 5) rfl rfl Try.func68 (by kernel_rfl) rfl #[.pointer (some ⟨g, 0, none⟩)] rfl ?_; (with_reducible refine (impl_taker_word.calls g s0_0 s0_1 s0_2 t335 t336 false w0 _ ?side1 ?side2 A2.out).mono ?_); (case side1 => exact sI66); (case side2 => exact (sB66 (B := w0.heap.size) (w0 := w0))); rintro e w13 ⟨rfl, hi, hb, hk⟩; refine ⟨_, rfl, ?_⟩; have _ := aM (KeepBut.trans (sG (w := w)) hk (.inl rfl)); have _ := aM (hb); have _ := aM (hi); clear HK HB HI0; rename_i HK HB HI0; (try clear hb); (try clear hk); (try clear hi); obtain ⟨ASz14_0, cSz14_0, HGz14, hgz14, HSz14_0⟩ := HI0.out; have hcz14_0 := cellS66_0 HGz14; have hcz14_1 := cellS66_1 HGz14; have hcz14_2 := cellS66_2 HGz14; have hfz14_1 := blk_frozen HGz14 1; have hfz14_2 := blk_frozen HGz14 2; clear HGz14 hgz14) | ((with_reducible refine gate_dst (N := 23) rfl ?_); refine Kd.R_lit Kd.bool _ 4 ?hg (N := 23) ?hd (xs := ([(t335 != 0)] : List Bool)) (inner := [.bool (t335 != 0)]) (ok := fun _ => True) (okp := fun _ => True) ?hr ?hp (fun _ hk => hk) trivial (Below.refl _ _) (Nat.le_refl _) (by simp) ?_; (case hd => rfl); (case hg => rfl); (case hr => first | (go_simp; done) | (go_simp; rfl)); (case hp => exact (Reps.one (show Kd.M Kd.bool _ _ _ (t335 != 0) [.bool (t335 != 0)] from rfl) (Reps.none _ _))); intro v345 w15 ho16 hb hg_ hnew_; clear hg_ hnew_; (first | rw [← Ny344.out] at ho16 | (simp only [Int.reduceToNat] at ho16; rw [← Ny344.out] at ho16)); have _ := aM (Kd.R_lower ho16 (keep_size (w := w) (g := g) (row := none) (sG (w := w)))); have _ := aM (IsS66.below (show IsS66 w0 (w13.setCell ⟨g, 2, none⟩ (.bool (t335 != 65280))) g s0_0 t336 (t335 != 65280) from sI66) hb); have _ := aM (KeepBut.trans (sG (w := w)) (KeepBut.of_below hb g none) (.inl rfl)); have _ := aM (below_step (sB66 (B := w0.heap.size) (w0 := w0)) hb); clear HI0 HK HB; rename_i HO346 HI0 HK HB; clear hb ho16))
   go_ret
   exact ⟨_, by first | rfl | (simp [errW_none, errW_some] <;> rfl) | (simp [*, errW_none, errW_some] <;> rfl), by (with_reducible repeat (first | apply Kd.R_alloc | apply Kd.R_drewN | apply Kd.R_drew)); exact HO346.out, sI66, (sB66 (B := w0.heap.size) (w0 := w0)), (sG (w := w))⟩
  rw [if_pos c8] at H
  have c8b0 : (t335 == 0) = true := beq_iff_eq.mpr c8
  have c8b1 : (t335 != 0) = false := bne_eq_false_iff_eq.mpr c8
  clear c8
  obtain ⟨y341, hy341⟩ : ∃ y_ : List Bool, y_ = (([(t335 != 0)] : List Bool)) := ⟨_, rfl⟩
  replace H : (some (y341, t336, false)) = some (r1, r2, r3) := by first | (rw [hy341]; with_reducible exact H) | (have H2_ := (Option.bind_some _ _).symm.trans H; rw [hy341]; with_reducible exact H2_) | (have H2_ := (Option.bind_some _ _).symm.trans H; with_reducible exact H2_) | with_reducible exact H | (rw [hy341]; exact H) | exact H
  have Ny341 := aM hy341
  clear hy341
  simp only [Option.some.injEq, Prod.mk.injEq] at H
  obtain ⟨rfl, rfl, rfl⟩ := H
  go_enter Try.func69, Try.ntmps69
  go_wp2_with (first | ((with_reducible refine gate_callee (f := 68) rfl ?_); refine gL (some 5) rfl rfl Try.func68 (by kernel_rfl) rfl #[.pointer (some ⟨g, 0, none⟩)] rfl ?_; (with_reducible refine (impl_taker_word.calls g s0_0 s0_1 s0_2 t335 t336 false w0 _ ?side1 ?side2 A2.out).mono ?_); (case side1 => exact sI66); (case side2 => exact (sB66 (B := w0.heap.size) (w0 := w0))); rintro e w9 ⟨rfl, hi, hb, hk⟩; refine ⟨_, rfl, ?_⟩; have _ := aM (KeepBut.trans (sG (w := w)) hk (.inl rfl)); have _ := aM (hb); have _ := aM (hi); clear HK HB HI0; rename_i HK HB HI0; (try clear hb); (try clear hk); (try clear hi); obtain ⟨ASz10_0, cSz10_0, HGz10, hgz10, HSz10_0⟩ := HI0.out; have hcz10_0 := cellS66_0 HGz10; have hcz10_1 := cellS66_1 HGz10; have hcz10_2 := cellS66_2 HGz10; have hfz10_1 := blk_frozen HGz10 1; have hfz10_2 := blk_frozen HGz10 2; clear HGz10 hgz10) | ((with_reducible refine gate_dst (N := 23) rfl ?_); refine Kd.R_lit Kd.bool _ 4 ?hg (N := 23) ?hd (xs := ([(t335 != 0)] : List Bool)) (inner := [.bool (t335 != 0)]) (ok := fun _ => True) (okp := fun _ => True) ?hr ?hp (fun _ hk => hk) trivial (Below.refl _ _) (Nat.le_refl _) (by simp) ?_; (case hd => rfl); (case hg => rfl); (case hr => first | (go_simp; done) | (go_simp; rfl)); (case hp => exact (Reps.one (show Kd.M Kd.bool _ _ _ (t335 != 0) [.bool (t335 != 0)] from rfl) (Reps.none _ _))); intro v342 w11 ho12 hb hg_ hnew_; clear hg_ hnew_; (first | rw [← Ny341.out] at ho12 | (simp only [Int.reduceToNat] at ho12; rw [← Ny341.out] at ho12)); have _ := aM (Kd.R_lower ho12 (keep_size (w := w) (g := g) (row := none) (sG (w := w)))); have _ := aM (IsS66.below (show IsS66 w0 (w9.setCell ⟨g, 2, none⟩ (.bool false)) g s0_0 t336 false from sI66) hb); have _ := aM (KeepBut.trans (sG (w := w)) (KeepBut.of_below hb g none) (.inl rfl)); have _ := aM (below_step (sB66 (B := w0.heap.size) (w0 := w0)) hb); clear HI0 HK HB; rename_i HO343 HI0 HK HB; clear hb ho12))
  go_ret
  exact ⟨_, by first | rfl | (simp [errW_none, errW_some] <;> rfl) | (simp [*, errW_none, errW_some] <;> rfl), by (with_reducible repeat (first | apply Kd.R_alloc | apply Kd.R_drewN | apply Kd.R_drew)); exact HO343.out, sI66, (sB66 (B := w0.heap.size) (w0 := w0)), (sG (w := w))⟩
end Go.Proofs.Yteoghpcgompajaa.G
