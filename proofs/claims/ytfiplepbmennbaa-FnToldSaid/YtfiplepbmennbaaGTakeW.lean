/- Contracts of functions, for more than one law: what they compute. -/
import Derived.Test.YtfiplepbmennbaaM
import Derived.Test.YtfiplepbmennbaaProg
import Derived.Test.YtfiplepbmennbaaWMore
import Derived.Test.YtfiplepbmennbaaWRepsOne
import Derived.Test.YtfiplepbmennbaaWTab
import Derived.WalkSpells
import Derived.Test.YtfiplepbmennbaaL
import Derived.Below
import Derived.Deep.Draws
import Derived.Deep.AppendLies
import Derived.Maps.AppendAt
import Derived.OwnWalk
import Derived.Laws.BytesArg
import Derived.Laws.MakeOwn
import Derived.Laws.OwnMore
import Derived.Deep.OwnRows
import Derived.Tactics
import Derived.Lib.ConvBytes
import Derived.Laws.Slices
import Derived.WalkKit
import Derived.KernelRfl
import Derived.RowKit3
import Derived.Deep.LoopGhost
import Derived.Deep.QuietTactic
import Derived.BigQuiet
import Derived.WideLaws
import Derived.Deep.DeepCutAuto
import Derived.Deep.CutBlock
import Derived.Deep.RegionHeld3
import Derived.Laws.Rows
import Derived.Lib.AppendStr
import Derived.ArgAppend
import Derived.Laws.IdiomCopy
import Derived.OrdersHeld
import Derived.Laws.BitsLemmas
import Derived.RowKit
import Derived.Test.YtfiplepbmennbaaWWords
import Derived.Test.YtfiplepbmennbaaWLast
import Derived.Test.YtfiplepbmennbaaWFour
import Derived.Test.YtfiplepbmennbaaWQPut
import Derived.Test.YtfiplepbmennbaaWApart
import Derived.Test.YtfiplepbmennbaaWArr
import Derived.Test.YtfiplepbmennbaaWZeros
import Derived.Test.YtfiplepbmennbaaWFoot
import Derived.Test.YtfiplepbmennbaaWKept
import Derived.Test.YtfiplepbmennbaaWShare
import Derived.Test.YtfiplepbmennbaaWN
import Derived.Test.YtfiplepbmennbaaWFootNe
import Derived.Test.YtfiplepbmennbaaWAt
import Derived.Test.YtfiplepbmennbaaWEqStruct
import Derived.Test.YtfiplepbmennbaaWInv
import Derived.Test.YtfiplepbmennbaaWInvWords
import Derived.Test.YtfiplepbmennbaaWGuard
import Derived.Test.YtfiplepbmennbaaWNEv
import Derived.Test.YtfiplepbmennbaaGTaker
namespace Go.Proofs.Ytfiplepbmennbaa.G
open Go.Proofs.Ytfiplepbmennbaa.K Go Go.RowKit Go.Proofs.YtfiplepbmennbaaW.PrintWords Go.Proofs.YtfiplepbmennbaaW.PrintLast Go.Proofs.YtfiplepbmennbaaW.PrintMore
attribute [local go_sem] max2_int min2_int max_two min_two max_three min_three max_four min_four   -- for this text's walks alone
set_option linter.unusedVariables false
set_option linter.unusedSimpArgs false

theorem info3 : (Try.prog.info? 3).map (fun i => (i.zero, i.size, i.bytes)) = some (some (.int .i64 0), 1, 8) := by kernel_rfl
/-! ### impl_taker_words: function 84 -/
def impl_taker_words.l0 : Nat → Int → List Int → Int → List Int → Int → Bool → Option (List Int × Int × Bool)
 | 0, _, _, _, _, _, _ => none
 | k + 1, x1, x5, x6, x1000, x1001, x1002 => if x6 < x1 then (if x1002 = true then (some (x5, x1001, x1002)) else ((impl_taker_word.f x1000 x1001 x1002).bind fun bt316 => (if x5.length < 17592186044416 then (impl_taker_words.l0 k x1 (x5 ++ [bt316.1]) (wrap64 (x6 + 1)) x1000 bt316.2.1 bt316.2.2) else (none)))) else (some (x5, x1001, x1002))
def impl_taker_words.f (k : Nat) (s0_0 : List Int) (s0_1 : Int) (s0_2 : Bool) (a1 : Int) : Option (List Int × Int × Bool) := impl_taker_words.l0 k a1 ([] : List Int) 0 s0_0 s0_1 s0_2
theorem impl_taker_words.mono_l : ∀ k, (∀ y0 y1 y2 y3 y4 y5, LeO (impl_taker_words.l0 k y0 y1 y2 y3 y4 y5) (impl_taker_words.l0 (k + 1) y0 y1 y2 y3 y4 y5))
 | 0 => fun _ _ _ _ _ _ r h => by simp [impl_taker_words.l0] at h
 | k + 1 => by
  have ih0 := impl_taker_words.mono_l k
  ·intro y0 y1 y2 y3 y4 y5
   unfold impl_taker_words.l0
   repeat' first
   | (with_reducible exact ih0 _ _ _ _ _ _)
   | (with_reducible exact LeO.refl _)
   | (with_reducible exact LeO.none _)
   | (with_reducible refine LeO.ite ?_ ?_)
   | (with_reducible refine LeO.bind ?_ (fun _ => ?_))
   | exact ih0 _ _ _ _ _ _
   | exact LeO.none _
   | refine LeO.ite ?_ ?_
   | refine LeO.bind ?_ (fun _ => ?_)
theorem impl_taker_words.mono : ∀ a0 a1 a2 a3 k, LeO (impl_taker_words.f k a0 a1 a2 a3) (impl_taker_words.f (k + 1) a0 a1 a2 a3) := by
 intro a0 a1 a2 a3 k
 have ih0 := impl_taker_words.mono_l k
 unfold impl_taker_words.f
 repeat' first
   | (with_reducible exact ih0 _ _ _ _ _ _)
   | (with_reducible exact LeO.refl _)
   | (with_reducible exact LeO.none _)
   | (with_reducible refine LeO.ite ?_ ?_)
   | (with_reducible refine LeO.bind ?_ (fun _ => ?_))
   | exact ih0 _ _ _ _ _ _
   | exact LeO.none _
   | refine LeO.ite ?_ ?_
   | refine LeO.bind ?_ (fun _ => ?_)
set_option maxHeartbeats 8000000 in
set_option maxRecDepth 100000 in
theorem impl_taker_words.calls (k : Nat) (g : Nat) (s0_0 : List Int) (s0_1 : Int) (s0_2 : Bool) (a1 : Int) (r1 : List Int) (r2 : Int) (r3 : Bool) (w0 w : World) (hI : IsS72 w0 w g s0_0 s0_1 s0_2) (hB : Below w0.heap.size w0 w) (h : impl_taker_words.f k s0_0 s0_1 s0_2 a1 = some (r1, r2, r3)) :
  Calls Try.prog 84 #[.pointer (some ⟨g, 0, none⟩), .int .i64 a1] w fun e w' => ∃ v0_ : Value, e = .returned (v0_) ∧ Kd.R (Kd.int .i64) 3 w' w.heap.size (fun _ => True) v0_ r1 ∧ IsS72 w0 w' g s0_0 r2 r3 ∧ Below w0.heap.size w0 w' ∧ KeepBut w w' g none := by
 have HI0 := aM hI
 have HK := aM (KeepBut.refl w g none)
 have HL := aM hB.size
 clear hI
 have HW0 := aM hB.size
 have HB := aM hB
 clear hB
 have H : (impl_taker_words.l0 k a1 ([] : List Int) 0 s0_0 s0_1 s0_2) = some (r1, r2, r3) := h
 clear h
 have H' := aM H
 clear H
 go_enter Try.func84, Try.ntmps84
 go_wp2
 go_loopg [5, 6] k (fun kq v5 v6 w' => ∃ (x5_1 : List Int) (x6_1 : Int) (x1001_1 : Int) (x1002_1 : Bool), v6 = .int .i64 x6_1 ∧ Aside0 (impl_taker_words.l0 kq a1 x5_1 x6_1 s0_0 x1001_1 x1002_1 = some (r1, r2, r3)) ∧ Aside0 (kq ≤ k) ∧ Aside0 (Kd.R (Kd.int .i64) 3 w' w.heap.size (fun _ => True) v5 x5_1) ∧ Aside0 (IsS72 w0 w' g s0_0 x1001_1 x1002_1) ∧ Aside0 (KeepBut w w' g none) ∧ Aside0 (Below w0.heap.size w0 w'))
 case atStart => exact ⟨(([] : List Int)), (0), (s0_1), (s0_2), (by first | rfl | (simp; done) | (simp [*]; done)), H', ⟨Nat.le_refl _⟩, ⟨by first | exact Kd.R_nil _ _ _ _ _ | exact Kd.N_nil _ _ _ _ _ | exact Kd.V_nil _ _ _ _ _ | exact Kd.Q_nil _ _ _ _ _ | exact Kd.S_nil _ _ _ _ _⟩, ⟨sI72⟩, ⟨(sG (w := w))⟩, ⟨(sB72 (B := w0.heap.size) (w0 := w0))⟩⟩
 case round =>
  clear H'
  try clear p2
  obtain ⟨x5_1, x6_1, x1001_1, x1002_1, rfl, HA, HK1, HO_5, HI0, HK, HB⟩ := hrel
  cases gk with
  | zero => exact absurd HA.out (by simp [impl_taker_words.l0])
  | succ k1 =>
   have H := HA.out
   clear HA
   simp only [impl_taker_words.l0] at H
   by_cases c3 : x6_1 < a1
   rotate_left
   ·rw [if_neg c3] at H
    have c3b0 : decide (x6_1 < a1) = false := decide_eq_false c3
    clear c3
    simp only [Option.some.injEq, Prod.mk.injEq] at H
    obtain ⟨rfl, rfl, rfl⟩ := H
    go_wp2
    go_ret
    exact ⟨_, by first | rfl | (simp [errW_none, errW_some] <;> rfl) | (simp [*, errW_none, errW_some] <;> rfl), by (with_reducible repeat (first | apply Kd.R_alloc | apply Kd.R_drewN | apply Kd.R_drew)); exact HO_5.out, sI72, (sB72 (B := w0.heap.size) (w0 := w0)), (sG (w := w))⟩
   rw [if_pos c3] at H
   have c3b0 : decide (x6_1 < a1) = true := decide_eq_true c3
   clear c3
   by_cases c4 : x1002_1 = true
   ·subst c4
    rw [if_pos rfl] at H
    (try dsimp only at H)
    simp only [Option.some.injEq, Prod.mk.injEq] at H
    obtain ⟨rfl, rfl, rfl⟩ := H
    obtain ⟨ASz5_0, cSz5_0, HGz5, hgz5, HSz5_0⟩ := HI0.out
    have hcz5_0 := cellS72_0 HGz5
    have hcz5_1 := cellS72_1 HGz5
    have hcz5_2 := cellS72_2 HGz5
    have hfz5_1 := blk_frozen HGz5 1
    have hfz5_2 := blk_frozen HGz5 2
    clear HGz5 hgz5
    go_wp2
    go_ret
    exact ⟨_, by first | rfl | (simp [errW_none, errW_some] <;> rfl) | (simp [*, errW_none, errW_some] <;> rfl), by (with_reducible repeat (first | apply Kd.R_alloc | apply Kd.R_drewN | apply Kd.R_drew)); exact HO_5.out, sI72, (sB72 (B := w0.heap.size) (w0 := w0)), (sG (w := w))⟩
   ·replace c4 := Bool.eq_false_iff.mpr c4
    subst c4
    rw [if_neg (show ¬ (false = true) by decide)] at H
    (try dsimp only at H)
    replace H := Option.bind_eq_some_iff.mp H
    obtain ⟨⟨t316, t317, t318⟩, A60, H⟩ := H
    (try dsimp only at H)
    have A6 := aM A60
    clear A60
    by_cases c7 : x5_1.length < 17592186044416
    rotate_left
    ·rw [if_neg c7] at H
     exact absurd H (by simp)
    rw [if_pos c7] at H
    have LMc7 := aM c7
    clear c7
    obtain ⟨y319, hy319⟩ : ∃ y_ : List Int, y_ = (x5_1 ++ [t316]) := ⟨_, rfl⟩
    replace H : (impl_taker_words.l0 k1 a1 y319 (wrap64 (x6_1 + 1)) s0_0 t317 t318) = some (r1, r2, r3) := by first | (rw [hy319]; with_reducible exact H) | (have H2_ := (Option.bind_some _ _).symm.trans H; rw [hy319]; with_reducible exact H2_) | (have H2_ := (Option.bind_some _ _).symm.trans H; with_reducible exact H2_) | with_reducible exact H | (rw [hy319]; exact H) | exact H
    have Ny319 := aM hy319
    clear hy319
    have H' := aM H
    clear H
    obtain ⟨ASz8_0, cSz8_0, HGz8, hgz8, HSz8_0⟩ := HI0.out
    have hcz8_0 := cellS72_0 HGz8
    have hcz8_1 := cellS72_1 HGz8
    have hcz8_2 := cellS72_2 HGz8
    have hfz8_1 := blk_frozen HGz8 1
    have hfz8_2 := blk_frozen HGz8 2
    clear HGz8 hgz8
    go_wp2_with (first | ((with_reducible refine gate_callee (f := 82) rfl ?_); refine gL (some 21) rfl rfl Try.func82 (by kernel_rfl) rfl #[.pointer (some ⟨g, 0, none⟩)] rfl ?_; (with_reducible refine (impl_taker_word.calls g s0_0 x1001_1 false t316 t317 t318 w0 _ ?side1 ?side2 A6.out).mono ?_); (case side1 => exact sI72); (case side2 => exact (sB72 (B := w0.heap.size) (w0 := w0))); rintro e w9 ⟨rfl, hi, hb, hk⟩; refine ⟨_, rfl, ?_⟩; have _ := aM (rK72 HO_5.out hk); have _ := aM (KeepBut.trans (sG (w := w)) hk (.inl rfl)); have _ := aM (hb); have _ := aM (hi); clear HO_5 HK HB HI0; rename_i HO_5 HK HB HI0; (try clear hb); (try clear hk); (try clear hi)) | ((with_reducible refine gate_builtin (b := .append) (xs := #[.tmp 19, .tmp 22]) rfl ?_); at_builtin; refine Kd.R_append (Kd.int .i64) w.heap.size rfl (.tmp 19) (.tmp 22) 22 3 (.int .i64 0) 8 rfl Try.underlying22 info3 rfl (by decide) (by omega) u5 x5_1 t316 [.int .i64 t316] (fun _ => True) (fun _ => False) rfl rfl ?aP (fun _ hk => hk.elim) ?aF ?aO (Below.refl _ _) ?aS ?aL ?_; (case aP => exact rfl); (case aF => exact (fun _ _ => trivial)); (case aO => exact (rA HO_5.out)); (case aS => exact (keep_size (w := w) (g := g) (row := none) (sG (w := w)))); (case aL => have := LMc7.out; omega); intro v320 w10 ho hb hg hat; rw [← Ny319.out] at ho; have _ := aM (IsS72.grown sI72 hg (IsS72.own_ne HI0.out HO_5.out (by decide))); have _ := aM (below_weaken (sB72 (B := w0.heap.size) (w0 := w0)) HL.out hb); have _ := aM (KeepBut.trans (sG (w := w)) (KeepBut.of_grown hg g) (Kd.R_base2 HO_5.out)); have _ := aM (ho); clear HI0 HB HK HO_5; rename_i HI0 HB HK HO321; clear ho hb hg hat))
    go_roundg k1
    case measure => have := HK1.out; omega
    case rel => exact ⟨(y319), (wrap64 (x6_1 + 1)), (t317), (t318), (by first | rfl | (simp; done) | (simp [*]; done)), H', ⟨by have := HK1.out; omega⟩, ⟨by (with_reducible repeat (first | apply Kd.R_alloc | apply Kd.R_drewN | apply Kd.R_drew)); exact HO321.out⟩, ⟨sI72⟩, ⟨(sG (w := w))⟩, ⟨(sB72 (B := w0.heap.size) (w0 := w0))⟩⟩
/-! ### impl_taker_bit: function 83 -/
def impl_taker_bit.f (s0_0 : List Int) (s0_1 : Int) (s0_2 : Bool) : Option (List Bool × Int × Bool) := (impl_taker_word.f s0_0 s0_1 s0_2).bind fun bt322 => (if bt322.2.2 = true then (some ((([(bt322.1 != 0)] : List Bool)), bt322.2.1, true)) else (if bt322.1 = 0 then (some ((([(bt322.1 != 0)] : List Bool)), bt322.2.1, false)) else (some ((([(bt322.1 != 0)] : List Bool)), bt322.2.1, (bt322.1 != 65280)))))
set_option maxHeartbeats 8000000 in
set_option maxRecDepth 100000 in
theorem impl_taker_bit.calls (g : Nat) (s0_0 : List Int) (s0_1 : Int) (s0_2 : Bool) (r1 : List Bool) (r2 : Int) (r3 : Bool) (w0 w : World) (hI : IsS72 w0 w g s0_0 s0_1 s0_2) (hB : Below w0.heap.size w0 w) (h : impl_taker_bit.f s0_0 s0_1 s0_2 = some (r1, r2, r3)) :
  Calls Try.prog 83 #[.pointer (some ⟨g, 0, none⟩)] w fun e w' => ∃ v0_ : Value, e = .returned (v0_) ∧ Kd.R Kd.bool 4 w' w.heap.size (fun _ => True) v0_ r1 ∧ IsS72 w0 w' g s0_0 r2 r3 ∧ Below w0.heap.size w0 w' ∧ KeepBut w w' g none := by
 have HI0 := aM hI
 have HK := aM (KeepBut.refl w g none)
 have HL := aM hB.size
 clear hI
 have HW0 := aM hB.size
 have HB := aM hB
 clear hB
 have H : ((impl_taker_word.f s0_0 s0_1 s0_2).bind fun bt322 => (if bt322.2.2 = true then (some ((([(bt322.1 != 0)] : List Bool)), bt322.2.1, true)) else (if bt322.1 = 0 then (some ((([(bt322.1 != 0)] : List Bool)), bt322.2.1, false)) else (some ((([(bt322.1 != 0)] : List Bool)), bt322.2.1, (bt322.1 != 65280)))))) = some (r1, r2, r3) := h
 clear h
 replace H := Option.bind_eq_some_iff.mp H
 obtain ⟨⟨t322, t323, t324⟩, A20, H⟩ := H
 (try dsimp only at H)
 have A2 := aM A20
 clear A20
 by_cases c3 : t324 = true
 ·subst c3
  rw [if_pos rfl] at H
  (try dsimp only at H)
  obtain ⟨y325, hy325⟩ : ∃ y_ : List Bool, y_ = (([(t322 != 0)] : List Bool)) := ⟨_, rfl⟩
  replace H : (some (y325, t323, true)) = some (r1, r2, r3) := by first | (rw [hy325]; with_reducible exact H) | (have H2_ := (Option.bind_some _ _).symm.trans H; rw [hy325]; with_reducible exact H2_) | (have H2_ := (Option.bind_some _ _).symm.trans H; with_reducible exact H2_) | with_reducible exact H | (rw [hy325]; exact H) | exact H
  have Ny325 := aM hy325
  clear hy325
  simp only [Option.some.injEq, Prod.mk.injEq] at H
  obtain ⟨rfl, rfl, rfl⟩ := H
  go_enter Try.func83, Try.ntmps83
  go_wp2_with (first | ((with_reducible refine gate_callee (f := 82) rfl ?_); refine gL (some 5) rfl rfl Try.func82 (by kernel_rfl) rfl #[.pointer (some ⟨g, 0, none⟩)] rfl ?_; (with_reducible refine (impl_taker_word.calls g s0_0 s0_1 s0_2 t322 t323 true w0 _ ?side1 ?side2 A2.out).mono ?_); (case side1 => exact sI72); (case side2 => exact (sB72 (B := w0.heap.size) (w0 := w0))); rintro e w4 ⟨rfl, hi, hb, hk⟩; refine ⟨_, rfl, ?_⟩; have _ := aM (KeepBut.trans (sG (w := w)) hk (.inl rfl)); have _ := aM (hb); have _ := aM (hi); clear HK HB HI0; rename_i HK HB HI0; (try clear hb); (try clear hk); (try clear hi); obtain ⟨ASz5_0, cSz5_0, HGz5, hgz5, HSz5_0⟩ := HI0.out; have hcz5_0 := cellS72_0 HGz5; have hcz5_1 := cellS72_1 HGz5; have hcz5_2 := cellS72_2 HGz5; have hfz5_1 := blk_frozen HGz5 1; have hfz5_2 := blk_frozen HGz5 2; clear HGz5 hgz5) | ((with_reducible refine gate_dst (N := 23) rfl ?_); refine Kd.R_lit Kd.bool _ 4 ?hg (N := 23) ?hd (xs := ([(t322 != 0)] : List Bool)) (inner := [.bool (t322 != 0)]) (ok := fun _ => True) (okp := fun _ => True) ?hr ?hp (fun _ hk => hk) trivial (Below.refl _ _) (Nat.le_refl _) (by simp) ?_; (case hd => rfl); (case hg => rfl); (case hr => first | (go_simp; done) | (go_simp; rfl)); (case hp => exact (Reps.one (show Kd.M Kd.bool _ _ _ (t322 != 0) [.bool (t322 != 0)] from rfl) (Reps.none _ _))); intro v326 w6 ho7 hb hg_ hnew_; clear hg_ hnew_; (first | rw [← Ny325.out] at ho7 | (simp only [Int.reduceToNat] at ho7; rw [← Ny325.out] at ho7)); have _ := aM (Kd.R_lower ho7 (keep_size (w := w) (g := g) (row := none) (sG (w := w)))); have _ := aM (IsS72.below (show IsS72 w0 (w4.setCell ⟨g, 2, none⟩ (.bool true)) g s0_0 t323 true from sI72) hb); have _ := aM (KeepBut.trans (sG (w := w)) (KeepBut.of_below hb g none) (.inl rfl)); have _ := aM (below_step (sB72 (B := w0.heap.size) (w0 := w0)) hb); clear HI0 HK HB; rename_i HO327 HI0 HK HB; clear hb ho7))
  go_ret
  exact ⟨_, by first | rfl | (simp [errW_none, errW_some] <;> rfl) | (simp [*, errW_none, errW_some] <;> rfl), by (with_reducible repeat (first | apply Kd.R_alloc | apply Kd.R_drewN | apply Kd.R_drew)); exact HO327.out, sI72, (sB72 (B := w0.heap.size) (w0 := w0)), (sG (w := w))⟩
 ·replace c3 := Bool.eq_false_iff.mpr c3
  subst c3
  rw [if_neg (show ¬ (false = true) by decide)] at H
  (try dsimp only at H)
  by_cases c8 : t322 = 0
  rotate_left
  ·rw [if_neg c8] at H
   have c8b0 : (t322 == 0) = false := beq_eq_false_iff_ne.mpr c8
   have c8b1 : (t322 != 0) = true := bne_iff_ne.mpr c8
   obtain ⟨y331, hy331⟩ : ∃ y_ : List Bool, y_ = (([(t322 != 0)] : List Bool)) := ⟨_, rfl⟩
   replace H : (some (y331, t323, (t322 != 65280))) = some (r1, r2, r3) := by first | (rw [hy331]; with_reducible exact H) | (have H2_ := (Option.bind_some _ _).symm.trans H; rw [hy331]; with_reducible exact H2_) | (have H2_ := (Option.bind_some _ _).symm.trans H; with_reducible exact H2_) | with_reducible exact H | (rw [hy331]; exact H) | exact H
   have Ny331 := aM hy331
   clear hy331
   simp only [Option.some.injEq, Prod.mk.injEq] at H
   obtain ⟨rfl, rfl, rfl⟩ := H
   go_enter Try.func83, Try.ntmps83
   go_wp2_with (first | ((with_reducible refine gate_callee (f := 82) rfl ?_); refine gL (some 5) rfl rfl Try.func82 (by kernel_rfl) rfl #[.pointer (some ⟨g, 0, none⟩)] rfl ?_; (with_reducible refine (impl_taker_word.calls g s0_0 s0_1 s0_2 t322 t323 false w0 _ ?side1 ?side2 A2.out).mono ?_); (case side1 => exact sI72); (case side2 => exact (sB72 (B := w0.heap.size) (w0 := w0))); rintro e w13 ⟨rfl, hi, hb, hk⟩; refine ⟨_, rfl, ?_⟩; have _ := aM (KeepBut.trans (sG (w := w)) hk (.inl rfl)); have _ := aM (hb); have _ := aM (hi); clear HK HB HI0; rename_i HK HB HI0; (try clear hb); (try clear hk); (try clear hi); obtain ⟨ASz14_0, cSz14_0, HGz14, hgz14, HSz14_0⟩ := HI0.out; have hcz14_0 := cellS72_0 HGz14; have hcz14_1 := cellS72_1 HGz14; have hcz14_2 := cellS72_2 HGz14; have hfz14_1 := blk_frozen HGz14 1; have hfz14_2 := blk_frozen HGz14 2; clear HGz14 hgz14) | ((with_reducible refine gate_dst (N := 23) rfl ?_); refine Kd.R_lit Kd.bool _ 4 ?hg (N := 23) ?hd (xs := ([(t322 != 0)] : List Bool)) (inner := [.bool (t322 != 0)]) (ok := fun _ => True) (okp := fun _ => True) ?hr ?hp (fun _ hk => hk) trivial (Below.refl _ _) (Nat.le_refl _) (by simp) ?_; (case hd => rfl); (case hg => rfl); (case hr => first | (go_simp; done) | (go_simp; rfl)); (case hp => exact (Reps.one (show Kd.M Kd.bool _ _ _ (t322 != 0) [.bool (t322 != 0)] from rfl) (Reps.none _ _))); intro v332 w15 ho16 hb hg_ hnew_; clear hg_ hnew_; (first | rw [← Ny331.out] at ho16 | (simp only [Int.reduceToNat] at ho16; rw [← Ny331.out] at ho16)); have _ := aM (Kd.R_lower ho16 (keep_size (w := w) (g := g) (row := none) (sG (w := w)))); have _ := aM (IsS72.below (show IsS72 w0 (w13.setCell ⟨g, 2, none⟩ (.bool (t322 != 65280))) g s0_0 t323 (t322 != 65280) from sI72) hb); have _ := aM (KeepBut.trans (sG (w := w)) (KeepBut.of_below hb g none) (.inl rfl)); have _ := aM (below_step (sB72 (B := w0.heap.size) (w0 := w0)) hb); clear HI0 HK HB; rename_i HO333 HI0 HK HB; clear hb ho16))
   go_ret
   exact ⟨_, by first | rfl | (simp [errW_none, errW_some] <;> rfl) | (simp [*, errW_none, errW_some] <;> rfl), by (with_reducible repeat (first | apply Kd.R_alloc | apply Kd.R_drewN | apply Kd.R_drew)); exact HO333.out, sI72, (sB72 (B := w0.heap.size) (w0 := w0)), (sG (w := w))⟩
  rw [if_pos c8] at H
  have c8b0 : (t322 == 0) = true := beq_iff_eq.mpr c8
  have c8b1 : (t322 != 0) = false := bne_eq_false_iff_eq.mpr c8
  clear c8
  obtain ⟨y328, hy328⟩ : ∃ y_ : List Bool, y_ = (([(t322 != 0)] : List Bool)) := ⟨_, rfl⟩
  replace H : (some (y328, t323, false)) = some (r1, r2, r3) := by first | (rw [hy328]; with_reducible exact H) | (have H2_ := (Option.bind_some _ _).symm.trans H; rw [hy328]; with_reducible exact H2_) | (have H2_ := (Option.bind_some _ _).symm.trans H; with_reducible exact H2_) | with_reducible exact H | (rw [hy328]; exact H) | exact H
  have Ny328 := aM hy328
  clear hy328
  simp only [Option.some.injEq, Prod.mk.injEq] at H
  obtain ⟨rfl, rfl, rfl⟩ := H
  go_enter Try.func83, Try.ntmps83
  go_wp2_with (first | ((with_reducible refine gate_callee (f := 82) rfl ?_); refine gL (some 5) rfl rfl Try.func82 (by kernel_rfl) rfl #[.pointer (some ⟨g, 0, none⟩)] rfl ?_; (with_reducible refine (impl_taker_word.calls g s0_0 s0_1 s0_2 t322 t323 false w0 _ ?side1 ?side2 A2.out).mono ?_); (case side1 => exact sI72); (case side2 => exact (sB72 (B := w0.heap.size) (w0 := w0))); rintro e w9 ⟨rfl, hi, hb, hk⟩; refine ⟨_, rfl, ?_⟩; have _ := aM (KeepBut.trans (sG (w := w)) hk (.inl rfl)); have _ := aM (hb); have _ := aM (hi); clear HK HB HI0; rename_i HK HB HI0; (try clear hb); (try clear hk); (try clear hi); obtain ⟨ASz10_0, cSz10_0, HGz10, hgz10, HSz10_0⟩ := HI0.out; have hcz10_0 := cellS72_0 HGz10; have hcz10_1 := cellS72_1 HGz10; have hcz10_2 := cellS72_2 HGz10; have hfz10_1 := blk_frozen HGz10 1; have hfz10_2 := blk_frozen HGz10 2; clear HGz10 hgz10) | ((with_reducible refine gate_dst (N := 23) rfl ?_); refine Kd.R_lit Kd.bool _ 4 ?hg (N := 23) ?hd (xs := ([(t322 != 0)] : List Bool)) (inner := [.bool (t322 != 0)]) (ok := fun _ => True) (okp := fun _ => True) ?hr ?hp (fun _ hk => hk) trivial (Below.refl _ _) (Nat.le_refl _) (by simp) ?_; (case hd => rfl); (case hg => rfl); (case hr => first | (go_simp; done) | (go_simp; rfl)); (case hp => exact (Reps.one (show Kd.M Kd.bool _ _ _ (t322 != 0) [.bool (t322 != 0)] from rfl) (Reps.none _ _))); intro v329 w11 ho12 hb hg_ hnew_; clear hg_ hnew_; (first | rw [← Ny328.out] at ho12 | (simp only [Int.reduceToNat] at ho12; rw [← Ny328.out] at ho12)); have _ := aM (Kd.R_lower ho12 (keep_size (w := w) (g := g) (row := none) (sG (w := w)))); have _ := aM (IsS72.below (show IsS72 w0 (w9.setCell ⟨g, 2, none⟩ (.bool false)) g s0_0 t323 false from sI72) hb); have _ := aM (KeepBut.trans (sG (w := w)) (KeepBut.of_below hb g none) (.inl rfl)); have _ := aM (below_step (sB72 (B := w0.heap.size) (w0 := w0)) hb); clear HI0 HK HB; rename_i HO330 HI0 HK HB; clear hb ho12))
  go_ret
  exact ⟨_, by first | rfl | (simp [errW_none, errW_some] <;> rfl) | (simp [*, errW_none, errW_some] <;> rfl), by (with_reducible repeat (first | apply Kd.R_alloc | apply Kd.R_drewN | apply Kd.R_drew)); exact HO330.out, sI72, (sB72 (B := w0.heap.size) (w0 := w0)), (sG (w := w))⟩
end Go.Proofs.Ytfiplepbmennbaa.G
