/- Contracts of functions, for more than one law: what they compute. -/
import Derived.Test.YteoghpcgompajaaM
import Derived.Test.YteoghpcgompajaaProg
import Derived.Test.YteoghpcgompajaaWMore
import Derived.Test.YteoghpcgompajaaWRepsOne
import Derived.Test.YteoghpcgompajaaWTab
import Derived.WalkSpells
import Derived.Test.YteoghpcgompajaaL
import Derived.Below
import Derived.Deep.Draws
import Derived.Deep.AppendLies
import Derived.Maps.AppendAt
import Derived.OwnWalk
import Derived.Laws.BytesArg
import Derived.Laws.MakeOwn
import Derived.Laws.OwnMore
import Derived.Deep.OwnRows
import Derived.Tactics
import Derived.Lib.ConvBytes
import Derived.Laws.Slices
import Derived.WalkKit
import Derived.KernelRfl
import Derived.RowKit3
import Derived.Deep.LoopGhost
import Derived.Deep.QuietTactic
import Derived.BigQuiet
import Derived.WideLaws
import Derived.Deep.DeepCutAuto
import Derived.Deep.CutBlock
import Derived.Deep.RegionHeld3
import Derived.Laws.Rows
import Derived.Lib.AppendStr
import Derived.ArgAppend
import Derived.Laws.IdiomCopy
import Derived.OrdersHeld
import Derived.Laws.BitsLemmas
import Derived.RowKit
import Derived.Test.YteoghpcgompajaaWWords
import Derived.Test.YteoghpcgompajaaWLast
import Derived.Test.YteoghpcgompajaaWFour
import Derived.Test.YteoghpcgompajaaWQPut
import Derived.Test.YteoghpcgompajaaWApart
import Derived.Test.YteoghpcgompajaaWArr
import Derived.Test.YteoghpcgompajaaWZeros
import Derived.Test.YteoghpcgompajaaWFoot
import Derived.Test.YteoghpcgompajaaWKept
import Derived.Test.YteoghpcgompajaaWShare
import Derived.Test.YteoghpcgompajaaWN
import Derived.Test.YteoghpcgompajaaWFootNe
import Derived.Test.YteoghpcgompajaaWAt
import Derived.Test.YteoghpcgompajaaWEqStruct
import Derived.Test.YteoghpcgompajaaWInv
import Derived.Test.YteoghpcgompajaaWInvWords
import Derived.Test.YteoghpcgompajaaWGuard
import Derived.Test.YteoghpcgompajaaWNEv
import Derived.Test.YteoghpcgompajaaGAllWords
import Derived.Test.YteoghpcgompajaaGTakeA
namespace Go.Proofs.Yteoghpcgompajaa.G
open Go.Proofs.Yteoghpcgompajaa.K Go Go.RowKit Go.Proofs.YteoghpcgompajaaW.PrintWords Go.Proofs.YteoghpcgompajaaW.PrintLast Go.Proofs.YteoghpcgompajaaW.PrintMore
attribute [local go_sem] max2_int min2_int max_two min_two max_three min_three max_four min_four   -- for this text's walks alone
set_option linter.unusedVariables false
set_option linter.unusedSimpArgs false

/-! ### impl_isWord: function 62 -/
def impl_isWord.f (a0 : Int) : Option (Bool) := (impl_in.f a0 0 65535).bind fun t315 => (some t315)
set_option maxHeartbeats 8000000 in
set_option maxRecDepth 100000 in
theorem impl_isWord.calls (a0 : Int) (r : Bool) (w : World) (h : impl_isWord.f a0 = some r) :
  Calls Try.prog 62 #[.int .i64 a0] w fun e w' => e = .returned (.bool r) ∧ Drawn0 w w' := by
 have H : ((impl_in.f a0 0 65535).bind fun t315 => (some t315)) = some r := h
 clear h
 replace H := Option.bind_eq_some_iff.mp H
 obtain ⟨t315, A20, H⟩ := H
 (try dsimp only at H)
 have A2 := aM A20
 clear A20
 obtain rfl := Option.some.inj H
 go_enter Try.func62, Try.ntmps62
 go_wp2_with (first | ((with_reducible refine gate_callee (f := 61) rfl ?_); refine gL (some 4) rfl rfl Try.func61 (by kernel_rfl) rfl #[.int .i64 a0, .int .i64 0, .int .i64 65535] rfl ?_; (with_reducible refine (impl_in.calls a0 0 65535 t315 _ A2.out).mono ?_); rintro e w' ⟨rfl, ⟨nd, rfl⟩⟩; refine ⟨_, rfl, ?_⟩))
 go_ret
 exact ⟨by first | rfl | (simp; done) | (simp [*]; done), by repeat (first | exact Drawn0.refl _ | apply Drawn0.step)⟩
/-! ### impl_isKind: function 50 -/
def impl_isKind.f (a0 : Int) : Option (Bool) := (impl_in.f a0 1 6).bind fun t309 => (if t309 = true then (some true) else (if a0 = 15 then (some true) else (if a0 = 16 then (some true) else (if a0 = 22 then (some true) else (some (a0 == 23))))))
set_option maxHeartbeats 8000000 in
set_option maxRecDepth 100000 in
theorem impl_isKind.calls (a0 : Int) (r : Bool) (w : World) (h : impl_isKind.f a0 = some r) :
  Calls Try.prog 50 #[.int .i64 a0] w fun e w' => e = .returned (.bool r) ∧ Drawn0 w w' := by
 have H : ((impl_in.f a0 1 6).bind fun t309 => (if t309 = true then (some true) else (if a0 = 15 then (some true) else (if a0 = 16 then (some true) else (if a0 = 22 then (some true) else (some (a0 == 23))))))) = some r := h
 clear h
 replace H := Option.bind_eq_some_iff.mp H
 obtain ⟨t309, A20, H⟩ := H
 (try dsimp only at H)
 have A2 := aM A20
 clear A20
 by_cases c3 : t309 = true
 ·subst c3
  rw [if_pos rfl] at H
  (try dsimp only at H)
  obtain rfl := Option.some.inj H
  go_enter Try.func50, Try.ntmps50
  go_wp2_with (first | ((with_reducible refine gate_callee (f := 61) rfl ?_); refine gL (some 4) rfl rfl Try.func61 (by kernel_rfl) rfl #[.int .i64 a0, .int .i64 1, .int .i64 6] rfl ?_; (with_reducible refine (impl_in.calls a0 1 6 true _ A2.out).mono ?_); rintro e w' ⟨rfl, ⟨nd, rfl⟩⟩; refine ⟨_, rfl, ?_⟩))
  go_ret
  exact ⟨by first | rfl | (simp; done) | (simp [*]; done), by repeat (first | exact Drawn0.refl _ | apply Drawn0.step)⟩
 ·replace c3 := Bool.eq_false_iff.mpr c3
  subst c3
  rw [if_neg (show ¬ (false = true) by decide)] at H
  (try dsimp only at H)
  by_cases c4 : a0 = 15
  ·rw [if_pos c4] at H
   have c4b0 : (a0 == 15) = true := beq_iff_eq.mpr c4
   have c4b1 : (a0 != 15) = false := bne_eq_false_iff_eq.mpr c4
   clear c4
   obtain rfl := Option.some.inj H
   go_enter Try.func50, Try.ntmps50
   go_wp2_with (first | ((with_reducible refine gate_callee (f := 61) rfl ?_); refine gL (some 4) rfl rfl Try.func61 (by kernel_rfl) rfl #[.int .i64 a0, .int .i64 1, .int .i64 6] rfl ?_; (with_reducible refine (impl_in.calls a0 1 6 false _ A2.out).mono ?_); rintro e w' ⟨rfl, ⟨nd, rfl⟩⟩; refine ⟨_, rfl, ?_⟩))
   go_ret
   exact ⟨by first | rfl | (simp; done) | (simp [*]; done), by repeat (first | exact Drawn0.refl _ | apply Drawn0.step)⟩
  ·rw [if_neg c4] at H
   have c4b0 : (a0 == 15) = false := beq_eq_false_iff_ne.mpr c4
   have c4b1 : (a0 != 15) = true := bne_iff_ne.mpr c4
   by_cases c5 : a0 = 16
   ·rw [if_pos c5] at H
    have c5b0 : (a0 == 16) = true := beq_iff_eq.mpr c5
    have c5b1 : (a0 != 16) = false := bne_eq_false_iff_eq.mpr c5
    clear c5
    obtain rfl := Option.some.inj H
    go_enter Try.func50, Try.ntmps50
    go_wp2_with (first | ((with_reducible refine gate_callee (f := 61) rfl ?_); refine gL (some 4) rfl rfl Try.func61 (by kernel_rfl) rfl #[.int .i64 a0, .int .i64 1, .int .i64 6] rfl ?_; (with_reducible refine (impl_in.calls a0 1 6 false _ A2.out).mono ?_); rintro e w' ⟨rfl, ⟨nd, rfl⟩⟩; refine ⟨_, rfl, ?_⟩))
    go_ret
    exact ⟨by first | rfl | (simp; done) | (simp [*]; done), by repeat (first | exact Drawn0.refl _ | apply Drawn0.step)⟩
   ·rw [if_neg c5] at H
    have c5b0 : (a0 == 16) = false := beq_eq_false_iff_ne.mpr c5
    have c5b1 : (a0 != 16) = true := bne_iff_ne.mpr c5
    by_cases c6 : a0 = 22
    rotate_left
    ·rw [if_neg c6] at H
     have c6b0 : (a0 == 22) = false := beq_eq_false_iff_ne.mpr c6
     have c6b1 : (a0 != 22) = true := bne_iff_ne.mpr c6
     obtain rfl := Option.some.inj H
     go_enter Try.func50, Try.ntmps50
     go_wp2_with (first | ((with_reducible refine gate_callee (f := 61) rfl ?_); refine gL (some 4) rfl rfl Try.func61 (by kernel_rfl) rfl #[.int .i64 a0, .int .i64 1, .int .i64 6] rfl ?_; (with_reducible refine (impl_in.calls a0 1 6 false _ A2.out).mono ?_); rintro e w' ⟨rfl, ⟨nd, rfl⟩⟩; refine ⟨_, rfl, ?_⟩))
     go_ret
     exact ⟨by first | rfl | (simp; done) | (simp [*]; done), by repeat (first | exact Drawn0.refl _ | apply Drawn0.step)⟩
    rw [if_pos c6] at H
    have c6b0 : (a0 == 22) = true := beq_iff_eq.mpr c6
    have c6b1 : (a0 != 22) = false := bne_eq_false_iff_eq.mpr c6
    clear c6
    obtain rfl := Option.some.inj H
    go_enter Try.func50, Try.ntmps50
    go_wp2_with (first | ((with_reducible refine gate_callee (f := 61) rfl ?_); refine gL (some 4) rfl rfl Try.func61 (by kernel_rfl) rfl #[.int .i64 a0, .int .i64 1, .int .i64 6] rfl ?_; (with_reducible refine (impl_in.calls a0 1 6 false _ A2.out).mono ?_); rintro e w' ⟨rfl, ⟨nd, rfl⟩⟩; refine ⟨_, rfl, ?_⟩))
    go_ret
    exact ⟨by first | rfl | (simp; done) | (simp [*]; done), by repeat (first | exact Drawn0.refl _ | apply Drawn0.step)⟩
/-! ### impl_counts: function 60 -/
mutual
def impl_counts.j0 : Nat → Int → Bool → Int → Int → Int → Int → Option (Int × Int × Int × Int × Int × Int)
 | 0, _, _, _, _, _, _ => none
 | k + 1, x9, x10, x314000, x314001, x315000, x315001 => if x10 = true then (some (1, 2000, x314000, x314001, x314000, x314001)) else (if x9 = 3 then (impl_counts.j1 k x9 (x9 == 3) x314000 x314001 x315000 x315001) else (impl_counts.j1 k x9 (x9 == 4) x314000 x314001 x315000 x315001))
def impl_counts.j1 : Nat → Int → Bool → Int → Int → Int → Int → Option (Int × Int × Int × Int × Int × Int)
 | 0, _, _, _, _, _, _ => none
 | k + 1, x9, x16, x314000, x314001, x315000, x315001 => if x16 = true then (some (1, 125, x314000, x314001, x314000, x314001)) else (if x9 = 5 then (some (x314000, x314001, x314000, x314001, x315000, x315001)) else (if x9 = 6 then (some (x314000, x314001, x315000, x315001, x314000, x314001)) else (if x9 = 15 then (some (x314000, x314001, x314000, x314001, 1, 1968)) else (if x9 = 16 then (some (x314000, x314001, 1, 123, x314000, x314001)) else (if x9 = 22 then (some (x314000, x314001, 2, 2, x314000, x314001)) else (some (1, 125, 1, 121, x314000, x314001)))))))
end
def impl_counts.f (k : Nat) (a0 : Int) : Option (Int × Int × Int × Int × Int × Int) := if a0 = 1 then (impl_counts.j0 k a0 (a0 == 1) 0 0 1 1) else (impl_counts.j0 k a0 (a0 == 2) 0 0 1 1)
theorem impl_counts.mono_l : ∀ k, (∀ y0 y1 y2 y3 y4 y5, LeO (impl_counts.j0 k y0 y1 y2 y3 y4 y5) (impl_counts.j0 (k + 1) y0 y1 y2 y3 y4 y5)) ∧ (∀ y0 y1 y2 y3 y4 y5, LeO (impl_counts.j1 k y0 y1 y2 y3 y4 y5) (impl_counts.j1 (k + 1) y0 y1 y2 y3 y4 y5))
 | 0 => ⟨fun _ _ _ _ _ _ r h => by simp [impl_counts.j0] at h, fun _ _ _ _ _ _ r h => by simp [impl_counts.j1] at h⟩
 | k + 1 => by
  obtain ⟨ih0, ih1⟩ := impl_counts.mono_l k
  refine ⟨?_, ?_⟩
  ·intro y0 y1 y2 y3 y4 y5
   unfold impl_counts.j0
   repeat' first
   | (with_reducible exact ih0 _ _ _ _ _ _)
   | (with_reducible exact ih1 _ _ _ _ _ _)
   | (with_reducible exact LeO.refl _)
   | (with_reducible exact LeO.none _)
   | (with_reducible refine LeO.ite ?_ ?_)
   | (with_reducible refine LeO.bind ?_ (fun _ => ?_))
   | exact ih0 _ _ _ _ _ _
   | exact ih1 _ _ _ _ _ _
   | exact LeO.none _
   | refine LeO.ite ?_ ?_
   | refine LeO.bind ?_ (fun _ => ?_)
  ·intro y0 y1 y2 y3 y4 y5
   unfold impl_counts.j1
   repeat' first
   | (with_reducible exact ih0 _ _ _ _ _ _)
   | (with_reducible exact ih1 _ _ _ _ _ _)
   | (with_reducible exact LeO.refl _)
   | (with_reducible exact LeO.none _)
   | (with_reducible refine LeO.ite ?_ ?_)
   | (with_reducible refine LeO.bind ?_ (fun _ => ?_))
   | exact ih0 _ _ _ _ _ _
   | exact ih1 _ _ _ _ _ _
   | exact LeO.none _
   | refine LeO.ite ?_ ?_
   | refine LeO.bind ?_ (fun _ => ?_)
theorem impl_counts.mono : ∀ a0 k, LeO (impl_counts.f k a0) (impl_counts.f (k + 1) a0) := by
 intro a0 k
 obtain ⟨ih0, ih1⟩ := impl_counts.mono_l k
 unfold impl_counts.f
 repeat' first
   | (with_reducible exact ih0 _ _ _ _ _ _)
   | (with_reducible exact ih1 _ _ _ _ _ _)
   | (with_reducible exact LeO.refl _)
   | (with_reducible exact LeO.none _)
   | (with_reducible refine LeO.ite ?_ ?_)
   | (with_reducible refine LeO.bind ?_ (fun _ => ?_))
   | exact ih0 _ _ _ _ _ _
   | exact ih1 _ _ _ _ _ _
   | exact LeO.none _
   | refine LeO.ite ?_ ?_
   | refine LeO.bind ?_ (fun _ => ?_)
set_option maxHeartbeats 8000000 in
set_option maxRecDepth 100000 in
theorem impl_counts.calls (k : Nat) (a0 : Int) (r1 : Int) (r2 : Int) (r3 : Int) (r4 : Int) (r5 : Int) (r6 : Int) (w : World) (h : impl_counts.f k a0 = some (r1, r2, r3, r4, r5, r6)) :
  Calls Try.prog 60 #[.int .i64 a0] w fun e w' => e = .returned (.tuple #[.agg #[.int .i64 r1, .int .i64 r2], .agg #[.int .i64 r3, .int .i64 r4], .agg #[.int .i64 r5, .int .i64 r6]]) ∧ Below w.heap.size w w' := by
 have hu75 := Try.underlying75
 have HB := aM (Below.refl w.heap.size w)
 have H : (if a0 = 1 then (impl_counts.j0 k a0 (a0 == 1) 0 0 1 1) else (impl_counts.j0 k a0 (a0 == 2) 0 0 1 1)) = some (r1, r2, r3, r4, r5, r6) := h
 clear h
 have HC2 := aM H
 clear H
 go_enter Try.func60, Try.ntmps60
 go_upto_if 10 with (first | ((with_reducible refine gate_dst (N := 2) rfl ?_); refine box_event ?hg (N := 2) ?hd (cs := #[.int .i64 0, .int .i64 0]) (t := 75) ?hr ?_; (case hd => rfl); (case hg => rfl); (case hr => first | (go_simp; done) | (go_simp; rfl)); intro gb310 hg w3 hbox hb; have _ := aM (below_step (bS HB.out) hb); have _ := aM (hbox); have _ := aM (leG hg (bS HB.out)); have _ := aM (leG hg (bS HB.out)); clear HB; rename_i HB BK310 GW310 GE310; clear hb hbox hg) | ((with_reducible refine gate_dst (N := 3) rfl ?_); refine box_event ?hg (N := 3) ?hd (cs := #[.int .i64 0, .int .i64 0]) (t := 75) ?hr ?_; (case hd => rfl); (case hg => rfl); (case hr => first | (go_simp; done) | (go_simp; rfl)); intro gb311 hg w4 hbox hb; have _ := aM (kB BK310.out hb); have _ := aM (below_step (bS HB.out) hb); have _ := aM (hbox); have _ := aM (leG hg (bS HB.out)); have _ := aM (leG hg (bS HB.out)); have _ := aM (neL hg (kA BK310.out)); have _ := aM (neG hg (kA BK310.out)); clear BK310 HB; rename_i BK310 HB BK311 GW311 GE311 NB310_311 NB311_310; clear hb hbox hg) | ((with_reducible refine gate_dst (N := 4) rfl ?_); refine box_event ?hg (N := 4) ?hd (cs := #[.int .i64 0, .int .i64 0]) (t := 75) ?hr ?_; (case hd => rfl); (case hg => rfl); (case hr => first | (go_simp; done) | (go_simp; rfl)); intro gb312 hg w5 hbox hb; have _ := aM (kB BK310.out hb); have _ := aM (kB BK311.out hb); have _ := aM (below_step (bS HB.out) hb); have _ := aM (hbox); have _ := aM (leG hg (bS HB.out)); have _ := aM (leG hg (bS HB.out)); have _ := aM (neL hg (kA BK310.out)); have _ := aM (neG hg (kA BK310.out)); have _ := aM (neL hg (kA BK311.out)); have _ := aM (neG hg (kA BK311.out)); clear BK310 BK311 HB; rename_i BK310 BK311 HB BK312 GW312 GE312 NB310_312 NB312_310 NB311_312 NB312_311; clear hb hbox hg) | ((with_reducible refine gate_dst (N := 5) rfl ?_); refine box_event ?hg (N := 5) ?hd (cs := #[.int .i64 0, .int .i64 0]) (t := 75) ?hr ?_; (case hd => rfl); (case hg => rfl); (case hr => first | (go_simp; done) | (go_simp; rfl)); intro gb313 hg w6 hbox hb; have _ := aM (kB BK310.out hb); have _ := aM (kB BK311.out hb); have _ := aM (kB BK312.out hb); have _ := aM (below_step (bS HB.out) hb); have _ := aM (hbox); have _ := aM (leG hg (bS HB.out)); have _ := aM (leG hg (bS HB.out)); have _ := aM (neL hg (kA BK310.out)); have _ := aM (neG hg (kA BK310.out)); have _ := aM (neL hg (kA BK311.out)); have _ := aM (neG hg (kA BK311.out)); have _ := aM (neL hg (kA BK312.out)); have _ := aM (neG hg (kA BK312.out)); clear BK310 BK311 BK312 HB; rename_i BK310 BK311 BK312 HB BK313 GW313 GE313 NB310_313 NB313_310 NB311_313 NB313_311 NB312_313 NB313_312; clear hb hbox hg) | ((with_reducible refine gate_dst (N := 6) rfl ?_); refine box_event ?hg (N := 6) ?hd (cs := #[.int .i64 0, .int .i64 0]) (t := 75) ?hr ?_; (case hd => rfl); (case hg => rfl); (case hr => first | (go_simp; done) | (go_simp; rfl)); intro gb314 hg w7 hbox hb; have _ := aM (kB BK310.out hb); have _ := aM (kB BK311.out hb); have _ := aM (kB BK312.out hb); have _ := aM (kB BK313.out hb); have _ := aM (below_step (bS HB.out) hb); have _ := aM (hbox); have _ := aM (leG hg (bS HB.out)); have _ := aM (leG hg (bS HB.out)); have _ := aM (neL hg (kA BK310.out)); have _ := aM (neG hg (kA BK310.out)); have _ := aM (neL hg (kA BK311.out)); have _ := aM (neG hg (kA BK311.out)); have _ := aM (neL hg (kA BK312.out)); have _ := aM (neG hg (kA BK312.out)); have _ := aM (neL hg (kA BK313.out)); have _ := aM (neG hg (kA BK313.out)); clear BK310 BK311 BK312 BK313 HB; rename_i BK310 BK311 BK312 BK313 HB BK314 GW314 GE314 NB310_314 NB314_310 NB311_314 NB314_311 NB312_314 NB314_312 NB313_314 NB314_313; clear hb hbox hg; have hnb8 := NB313_310.out; have hnc8 := NB310_313.out; have hnb9 := NB313_311.out; have hnc9 := NB311_313.out; have hnb10 := NB313_312.out; have hnc10 := NB312_313.out; have hnb11 := NB313_314.out; have hnc11 := NB314_313.out; obtain ⟨hcz12_0, hfz12_0, hcz12_1, hfz12_1⟩ := bk2 BK313.out; have hnb13 := NB314_310.out; have hnc13 := NB310_314.out; have hnb14 := NB314_311.out; have hnc14 := NB311_314.out; have hnb15 := NB314_312.out; have hnc15 := NB312_314.out; obtain ⟨hcz16_0, hfz16_0, hcz16_1, hfz16_1⟩ := bk2 BK314.out))
 (try simp only [Act.put, List.setIfInBounds_toArray, List.set_cons_zero, List.set_cons_succ])
 go_cut [10] (fun v10 wc => ∃ (kq : Nat) (x10_1 : Bool), v10 = .bool x10_1 ∧ Aside0 (impl_counts.j0 kq a0 x10_1 0 0 1 1 = some (r1, r2, r3, r4, r5, r6)) ∧ Aside0 (kq ≤ k) ∧ Aside0 (wc.heap[gb310]? = some (.cells #[.int .i64 0, .int .i64 0] 75 (0, 0))) ∧ Aside0 (wc.heap[gb311]? = some (.cells #[.int .i64 0, .int .i64 0] 75 (0, 0))) ∧ Aside0 (wc.heap[gb312]? = some (.cells #[.int .i64 0, .int .i64 0] 75 (0, 0))) ∧ Aside0 (wc.heap[gb313]? = some (.cells #[.int .i64 0, .int .i64 0] 75 (0, 0))) ∧ Aside0 (wc.heap[gb314]? = some (.cells #[.int .i64 1, .int .i64 1] 75 (0, 0))) ∧ Aside0 (Below w.heap.size w wc))
 case first =>
  have H := HC2.out
  clear HC2
  by_cases c17 : a0 = 1
  rotate_left
  ·rw [if_neg c17] at H
   have c17b0 : (a0 == 1) = false := beq_eq_false_iff_ne.mpr c17
   have c17b1 : (a0 != 1) = true := bne_iff_ne.mpr c17
   (first | rw [c17b0] | (simp only [i64_w, i32_w]; rw [c17b0]) | skip)
   have H' := aM H
   clear H
   go_wp2
   go_meet
   case rel => exact ⟨_, ((a0 == 2)), (by first | rfl | (simp; done) | (simp [*]; done)), H', ⟨by first | omega | exact Nat.le_refl _⟩, ⟨by (with_reducible repeat (first | refine blk_drewN ?_ _ | refine blk_drew ?_ | refine blk_alloc ?_ _)); refine blk_far ?_ NB310_314.out _; (with_reducible repeat (first | refine blk_drewN ?_ _ | refine blk_drew ?_ | refine blk_alloc ?_ _)); refine blk_far ?_ NB310_314.out _; (with_reducible repeat (first | refine blk_drewN ?_ _ | refine blk_drew ?_ | refine blk_alloc ?_ _)); refine blk_far ?_ NB310_313.out _; (with_reducible repeat (first | refine blk_drewN ?_ _ | refine blk_drew ?_ | refine blk_alloc ?_ _)); refine blk_far ?_ NB310_313.out _; (with_reducible repeat (first | refine blk_drewN ?_ _ | refine blk_drew ?_ | refine blk_alloc ?_ _)); exact BK310.out⟩, ⟨by (with_reducible repeat (first | refine blk_drewN ?_ _ | refine blk_drew ?_ | refine blk_alloc ?_ _)); refine blk_far ?_ NB311_314.out _; (with_reducible repeat (first | refine blk_drewN ?_ _ | refine blk_drew ?_ | refine blk_alloc ?_ _)); refine blk_far ?_ NB311_314.out _; (with_reducible repeat (first | refine blk_drewN ?_ _ | refine blk_drew ?_ | refine blk_alloc ?_ _)); refine blk_far ?_ NB311_313.out _; (with_reducible repeat (first | refine blk_drewN ?_ _ | refine blk_drew ?_ | refine blk_alloc ?_ _)); refine blk_far ?_ NB311_313.out _; (with_reducible repeat (first | refine blk_drewN ?_ _ | refine blk_drew ?_ | refine blk_alloc ?_ _)); exact BK311.out⟩, ⟨by (with_reducible repeat (first | refine blk_drewN ?_ _ | refine blk_drew ?_ | refine blk_alloc ?_ _)); refine blk_far ?_ NB312_314.out _; (with_reducible repeat (first | refine blk_drewN ?_ _ | refine blk_drew ?_ | refine blk_alloc ?_ _)); refine blk_far ?_ NB312_314.out _; (with_reducible repeat (first | refine blk_drewN ?_ _ | refine blk_drew ?_ | refine blk_alloc ?_ _)); refine blk_far ?_ NB312_313.out _; (with_reducible repeat (first | refine blk_drewN ?_ _ | refine blk_drew ?_ | refine blk_alloc ?_ _)); refine blk_far ?_ NB312_313.out _; (with_reducible repeat (first | refine blk_drewN ?_ _ | refine blk_drew ?_ | refine blk_alloc ?_ _)); exact BK312.out⟩, ⟨by (with_reducible repeat (first | refine blk_drewN ?_ _ | refine blk_drew ?_ | refine blk_alloc ?_ _)); refine blk_far ?_ NB313_314.out _; (with_reducible repeat (first | refine blk_drewN ?_ _ | refine blk_drew ?_ | refine blk_alloc ?_ _)); refine blk_far ?_ NB313_314.out _; (with_reducible repeat (first | refine blk_drewN ?_ _ | refine blk_drew ?_ | refine blk_alloc ?_ _)); refine blk_put (cs := #[.int .i64 0, .int .i64 0]) ?_ 1 _ rfl; (with_reducible repeat (first | refine blk_drewN ?_ _ | refine blk_drew ?_ | refine blk_alloc ?_ _)); refine blk_put (cs := #[.int .i64 0, .int .i64 0]) ?_ 0 _ rfl; (with_reducible repeat (first | refine blk_drewN ?_ _ | refine blk_drew ?_ | refine blk_alloc ?_ _)); exact BK313.out⟩, ⟨by (with_reducible repeat (first | refine blk_drewN ?_ _ | refine blk_drew ?_ | refine blk_alloc ?_ _)); refine blk_put (cs := #[.int .i64 1, .int .i64 0]) ?_ 1 _ rfl; (with_reducible repeat (first | refine blk_drewN ?_ _ | refine blk_drew ?_ | refine blk_alloc ?_ _)); refine blk_put (cs := #[.int .i64 0, .int .i64 0]) ?_ 0 _ rfl; (with_reducible repeat (first | refine blk_drewN ?_ _ | refine blk_drew ?_ | refine blk_alloc ?_ _)); refine blk_far ?_ NB314_313.out _; (with_reducible repeat (first | refine blk_drewN ?_ _ | refine blk_drew ?_ | refine blk_alloc ?_ _)); refine blk_far ?_ NB314_313.out _; (with_reducible repeat (first | refine blk_drewN ?_ _ | refine blk_drew ?_ | refine blk_alloc ?_ _)); exact BK314.out⟩, ⟨bS HB.out⟩⟩
  rw [if_pos c17] at H
  have c17b0 : (a0 == 1) = true := beq_iff_eq.mpr c17
  have c17b1 : (a0 != 1) = false := bne_eq_false_iff_eq.mpr c17
  clear c17
  (first | rw [c17b0] | (simp only [i64_w, i32_w]; rw [c17b0]) | skip)
  have H' := aM H
  clear H
  go_wp2
  go_meet
  case rel => exact ⟨_, ((a0 == 1)), (by first | rfl | (simp; done) | (simp [*]; done)), H', ⟨by first | omega | exact Nat.le_refl _⟩, ⟨by (with_reducible repeat (first | refine blk_drewN ?_ _ | refine blk_drew ?_ | refine blk_alloc ?_ _)); refine blk_far ?_ NB310_314.out _; (with_reducible repeat (first | refine blk_drewN ?_ _ | refine blk_drew ?_ | refine blk_alloc ?_ _)); refine blk_far ?_ NB310_314.out _; (with_reducible repeat (first | refine blk_drewN ?_ _ | refine blk_drew ?_ | refine blk_alloc ?_ _)); refine blk_far ?_ NB310_313.out _; (with_reducible repeat (first | refine blk_drewN ?_ _ | refine blk_drew ?_ | refine blk_alloc ?_ _)); refine blk_far ?_ NB310_313.out _; (with_reducible repeat (first | refine blk_drewN ?_ _ | refine blk_drew ?_ | refine blk_alloc ?_ _)); exact BK310.out⟩, ⟨by (with_reducible repeat (first | refine blk_drewN ?_ _ | refine blk_drew ?_ | refine blk_alloc ?_ _)); refine blk_far ?_ NB311_314.out _; (with_reducible repeat (first | refine blk_drewN ?_ _ | refine blk_drew ?_ | refine blk_alloc ?_ _)); refine blk_far ?_ NB311_314.out _; (with_reducible repeat (first | refine blk_drewN ?_ _ | refine blk_drew ?_ | refine blk_alloc ?_ _)); refine blk_far ?_ NB311_313.out _; (with_reducible repeat (first | refine blk_drewN ?_ _ | refine blk_drew ?_ | refine blk_alloc ?_ _)); refine blk_far ?_ NB311_313.out _; (with_reducible repeat (first | refine blk_drewN ?_ _ | refine blk_drew ?_ | refine blk_alloc ?_ _)); exact BK311.out⟩, ⟨by (with_reducible repeat (first | refine blk_drewN ?_ _ | refine blk_drew ?_ | refine blk_alloc ?_ _)); refine blk_far ?_ NB312_314.out _; (with_reducible repeat (first | refine blk_drewN ?_ _ | refine blk_drew ?_ | refine blk_alloc ?_ _)); refine blk_far ?_ NB312_314.out _; (with_reducible repeat (first | refine blk_drewN ?_ _ | refine blk_drew ?_ | refine blk_alloc ?_ _)); refine blk_far ?_ NB312_313.out _; (with_reducible repeat (first | refine blk_drewN ?_ _ | refine blk_drew ?_ | refine blk_alloc ?_ _)); refine blk_far ?_ NB312_313.out _; (with_reducible repeat (first | refine blk_drewN ?_ _ | refine blk_drew ?_ | refine blk_alloc ?_ _)); exact BK312.out⟩, ⟨by (with_reducible repeat (first | refine blk_drewN ?_ _ | refine blk_drew ?_ | refine blk_alloc ?_ _)); refine blk_far ?_ NB313_314.out _; (with_reducible repeat (first | refine blk_drewN ?_ _ | refine blk_drew ?_ | refine blk_alloc ?_ _)); refine blk_far ?_ NB313_314.out _; (with_reducible repeat (first | refine blk_drewN ?_ _ | refine blk_drew ?_ | refine blk_alloc ?_ _)); refine blk_put (cs := #[.int .i64 0, .int .i64 0]) ?_ 1 _ rfl; (with_reducible repeat (first | refine blk_drewN ?_ _ | refine blk_drew ?_ | refine blk_alloc ?_ _)); refine blk_put (cs := #[.int .i64 0, .int .i64 0]) ?_ 0 _ rfl; (with_reducible repeat (first | refine blk_drewN ?_ _ | refine blk_drew ?_ | refine blk_alloc ?_ _)); exact BK313.out⟩, ⟨by (with_reducible repeat (first | refine blk_drewN ?_ _ | refine blk_drew ?_ | refine blk_alloc ?_ _)); refine blk_put (cs := #[.int .i64 1, .int .i64 0]) ?_ 1 _ rfl; (with_reducible repeat (first | refine blk_drewN ?_ _ | refine blk_drew ?_ | refine blk_alloc ?_ _)); refine blk_put (cs := #[.int .i64 0, .int .i64 0]) ?_ 0 _ rfl; (with_reducible repeat (first | refine blk_drewN ?_ _ | refine blk_drew ?_ | refine blk_alloc ?_ _)); refine blk_far ?_ NB314_313.out _; (with_reducible repeat (first | refine blk_drewN ?_ _ | refine blk_drew ?_ | refine blk_alloc ?_ _)); refine blk_far ?_ NB314_313.out _; (with_reducible repeat (first | refine blk_drewN ?_ _ | refine blk_drew ?_ | refine blk_alloc ?_ _)); exact BK314.out⟩, ⟨bS HB.out⟩⟩
 case rest =>
  clear HC2
  try clear hcz12_0
  try clear hcz12_1
  try clear hcz16_0
  try clear hcz16_1
  try clear hfz12_0
  try clear hfz12_1
  try clear hfz16_0
  try clear hfz16_1
  obtain ⟨kq, x10_1, rfl, HA, HJ1, BK310, BK311, BK312, BK313, BK314, HB⟩ := hcut
  cases kq with
  | zero => exact absurd HA.out (by simp [impl_counts.j0])
  | succ kj1 =>
   have H := HA.out
   clear HA
   simp only [impl_counts.j0] at H
   by_cases c18 : x10_1 = true
   ·subst c18
    rw [if_pos rfl] at H
    (try dsimp only at H)
    simp only [Option.some.injEq, Prod.mk.injEq] at H
    obtain ⟨rfl, rfl, rfl, rfl, rfl, rfl⟩ := H
    try go_wp2
    have n0_ := aM (blk_drew BK310.out)
    have n1_ := aM (blk_drew BK311.out)
    have n2_ := aM (blk_drew BK312.out)
    have n3_ := aM (blk_drew BK313.out)
    have n4_ := aM (blk_drew BK314.out)
    have n5_ := aM (below_drew1 HB.out)
    clear BK310
    clear BK311
    clear BK312
    clear BK313
    clear BK314
    clear HB
    have BK310 := n0_
    have BK311 := n1_
    have BK312 := n2_
    have BK313 := n3_
    have BK314 := n4_
    have HB := n5_
    clear n0_ n1_ n2_ n3_ n4_ n5_
    refine start_ (n := 6) (S := fun w' => w'.cell? ⟨gb313, 0, none⟩ = some (.int .i64 0) ∧ w'.cell? ⟨gb313, 1, none⟩ = some (.int .i64 0)) (ds := []) #[false, false, false, false, false, false] (by kernel_rfl) rfl rfl ⟨(blk_cell BK313.out 0).trans rfl, (blk_cell BK313.out 1).trans rfl⟩ (fun hHeld => ?_)
    generalize wc.drew = w19 at BK310 BK311 BK312 BK313 BK314 HB hHeld ⊢
    refine pure_ (i := 0) (N := some 13) (v := ?_) (a' := ?_) #[true, false, false, false, false, false] rfl rfl (by kernel_rfl) (fun _ _ _ h => h) (Or.inl ⟨by rfl, ?_⟩) ?_ ?_
    rotate_left
    ·intro w'
     go_simp
     with_reducible rfl
    rotate_left
    ·simp only [Act.put, List.setIfInBounds_toArray, List.set_cons_zero, List.set_cons_succ, i64_w, i32_w]
     rfl
    refine take_ (i := 1) (N := some 14) (v := ?_) (a' := ?_) #[true, true, false, false, false, false] rfl rfl (by kernel_rfl) (fun _ _ _ h => h) (Or.inl ⟨by rfl, ?_⟩) hHeld ?_ ?_
    rotate_left
    ·rintro w' ⟨s0, s1⟩
     go_simp
     with_reducible rfl
    rotate_left
    ·simp only [Act.put, List.setIfInBounds_toArray, List.set_cons_zero, List.set_cons_succ, i64_w, i32_w]
     rfl
    refine take_ (i := 2) (N := some 15) (v := ?_) (a' := ?_) #[true, true, true, false, false, false] rfl rfl (by kernel_rfl) (fun _ _ _ h => h) (Or.inl ⟨by rfl, ?_⟩) hHeld ?_ ?_
    rotate_left
    ·rintro w' ⟨s0, s1⟩
     go_simp
     with_reducible rfl
    rotate_left
    ·simp only [Act.put, List.setIfInBounds_toArray, List.set_cons_zero, List.set_cons_succ, i64_w, i32_w]
     rfl
    refine one_ (i := 3) (N := none) #[true, true, true, true, false, false] rfl rfl (by kernel_rfl) (by decide) (fun K hK => ?_)
    have hs20 : w19.cell? ⟨gb310, 0, none⟩ = some (.int .i64 0) := (blk_cell BK310.out 0).trans rfl
    have hfs20 := blk_frozen BK310.out 0
    have hns20_1 := NB311_310.out
    have hns20_2 := NB312_310.out
    have hns20_3 := NB313_310.out
    have hns20_4 := NB314_310.out
    have hms20_1 := NB310_311.out
    have hms20_2 := NB310_312.out
    have hms20_3 := NB310_313.out
    have hms20_4 := NB310_314.out
    have hs21 : w19.cell? ⟨gb310, 1, none⟩ = some (.int .i64 0) := (blk_cell BK310.out 1).trans rfl
    have hfs21 := blk_frozen BK310.out 1
    have hns21_1 := NB311_310.out
    have hns21_2 := NB312_310.out
    have hns21_3 := NB313_310.out
    have hns21_4 := NB314_310.out
    have hms21_1 := NB310_311.out
    have hms21_2 := NB310_312.out
    have hms21_3 := NB310_313.out
    have hms21_4 := NB310_314.out
    refine skip_ (w1 := ?_) (by rfl) rfl ?_ ?_
    rotate_left
    ·go_simp
     rfl
    refine hK.out _ _ ⟨((cell_far (p := ⟨gb310, _, none⟩) NB313_310.out _).trans (((cell_far (p := ⟨gb310, _, none⟩) NB313_310.out _).trans (hHeld.1)))), ((cell_far (p := ⟨gb310, _, none⟩) NB313_310.out _).trans (((cell_far (p := ⟨gb310, _, none⟩) NB313_310.out _).trans (hHeld.2))))⟩ (fun hHeld => ?_)
    clear hK K
    refine one_ (i := 4) (N := none) #[true, true, true, true, true, false] rfl rfl (by kernel_rfl) (by decide) (fun K hK => ?_)
    have hs22 : w19.cell? ⟨gb311, 0, none⟩ = some (.int .i64 0) := (blk_cell BK311.out 0).trans rfl
    have hfs22 := blk_frozen BK311.out 0
    have hns22_0 := NB310_311.out
    have hns22_2 := NB312_311.out
    have hns22_3 := NB313_311.out
    have hns22_4 := NB314_311.out
    have hms22_0 := NB311_310.out
    have hms22_2 := NB311_312.out
    have hms22_3 := NB311_313.out
    have hms22_4 := NB311_314.out
    have hs23 : w19.cell? ⟨gb311, 1, none⟩ = some (.int .i64 0) := (blk_cell BK311.out 1).trans rfl
    have hfs23 := blk_frozen BK311.out 1
    have hns23_0 := NB310_311.out
    have hns23_2 := NB312_311.out
    have hns23_3 := NB313_311.out
    have hns23_4 := NB314_311.out
    have hms23_0 := NB311_310.out
    have hms23_2 := NB311_312.out
    have hms23_3 := NB311_313.out
    have hms23_4 := NB311_314.out
    refine skip_ (w1 := ?_) (by rfl) rfl ?_ ?_
    rotate_left
    ·go_simp
     rfl
    refine hK.out _ _ ⟨((cell_far (p := ⟨gb311, _, none⟩) NB313_311.out _).trans (((cell_far (p := ⟨gb311, _, none⟩) NB313_311.out _).trans (hHeld.1)))), ((cell_far (p := ⟨gb311, _, none⟩) NB313_311.out _).trans (((cell_far (p := ⟨gb311, _, none⟩) NB313_311.out _).trans (hHeld.2))))⟩ (fun hHeld => ?_)
    clear hK K
    refine one_ (i := 5) (N := none) #[true, true, true, true, true, true] rfl rfl (by kernel_rfl) (by decide) (fun K hK => ?_)
    have hs24 : w19.cell? ⟨gb312, 0, none⟩ = some (.int .i64 0) := (blk_cell BK312.out 0).trans rfl
    have hfs24 := blk_frozen BK312.out 0
    have hns24_0 := NB310_312.out
    have hns24_1 := NB311_312.out
    have hns24_3 := NB313_312.out
    have hns24_4 := NB314_312.out
    have hms24_0 := NB312_310.out
    have hms24_1 := NB312_311.out
    have hms24_3 := NB312_313.out
    have hms24_4 := NB312_314.out
    have hs25 : w19.cell? ⟨gb312, 1, none⟩ = some (.int .i64 0) := (blk_cell BK312.out 1).trans rfl
    have hfs25 := blk_frozen BK312.out 1
    have hns25_0 := NB310_312.out
    have hns25_1 := NB311_312.out
    have hns25_3 := NB313_312.out
    have hns25_4 := NB314_312.out
    have hms25_0 := NB312_310.out
    have hms25_1 := NB312_311.out
    have hms25_3 := NB312_313.out
    have hms25_4 := NB312_314.out
    refine skip_ (w1 := ?_) (by rfl) rfl ?_ ?_
    rotate_left
    ·go_simp
     rfl
    refine hK.out _ _ ⟨((cell_far (p := ⟨gb312, _, none⟩) NB313_312.out _).trans (((cell_far (p := ⟨gb312, _, none⟩) NB313_312.out _).trans (hHeld.1)))), ((cell_far (p := ⟨gb312, _, none⟩) NB313_312.out _).trans (((cell_far (p := ⟨gb312, _, none⟩) NB313_312.out _).trans (hHeld.2))))⟩ (fun hHeld => ?_)
    clear hK K
    refine done_ (by kernel_rfl) ?_
    try go_wp2
    refine bodyPost_ret (results_list (rs := [.cell 2 75, .cell 3 75, .cell 4 75]) rfl (by simp) (.cell gb310 75 #[.int .i64 1, .int .i64 2000] (0, 0) _ rfl (by (with_reducible repeat (first | refine blk_drewN ?_ _ | refine blk_drew ?_ | refine blk_alloc ?_ _)); refine blk_far ?_ NB310_312.out _; (with_reducible repeat (first | refine blk_drewN ?_ _ | refine blk_drew ?_ | refine blk_alloc ?_ _)); refine blk_far ?_ NB310_312.out _; (with_reducible repeat (first | refine blk_drewN ?_ _ | refine blk_drew ?_ | refine blk_alloc ?_ _)); refine blk_far ?_ NB310_311.out _; (with_reducible repeat (first | refine blk_drewN ?_ _ | refine blk_drew ?_ | refine blk_alloc ?_ _)); refine blk_far ?_ NB310_311.out _; (with_reducible repeat (first | refine blk_drewN ?_ _ | refine blk_drew ?_ | refine blk_alloc ?_ _)); refine blk_put (cs := #[.int .i64 1, .int .i64 0]) ?_ 1 _ rfl; (with_reducible repeat (first | refine blk_drewN ?_ _ | refine blk_drew ?_ | refine blk_alloc ?_ _)); refine blk_put (cs := #[.int .i64 0, .int .i64 0]) ?_ 0 _ rfl; (with_reducible repeat (first | refine blk_drewN ?_ _ | refine blk_drew ?_ | refine blk_alloc ?_ _)); exact BK310.out) Try.underlying75 rfl (by kernel_rfl) (.cell gb311 75 #[.int .i64 0, .int .i64 0] (0, 0) _ rfl (by (with_reducible repeat (first | refine blk_drewN ?_ _ | refine blk_drew ?_ | refine blk_alloc ?_ _)); refine blk_far ?_ NB311_312.out _; (with_reducible repeat (first | refine blk_drewN ?_ _ | refine blk_drew ?_ | refine blk_alloc ?_ _)); refine blk_far ?_ NB311_312.out _; (with_reducible repeat (first | refine blk_drewN ?_ _ | refine blk_drew ?_ | refine blk_alloc ?_ _)); refine blk_put (cs := #[.int .i64 0, .int .i64 0]) ?_ 1 _ rfl; (with_reducible repeat (first | refine blk_drewN ?_ _ | refine blk_drew ?_ | refine blk_alloc ?_ _)); refine blk_put (cs := #[.int .i64 0, .int .i64 0]) ?_ 0 _ rfl; (with_reducible repeat (first | refine blk_drewN ?_ _ | refine blk_drew ?_ | refine blk_alloc ?_ _)); refine blk_far ?_ NB311_310.out _; (with_reducible repeat (first | refine blk_drewN ?_ _ | refine blk_drew ?_ | refine blk_alloc ?_ _)); refine blk_far ?_ NB311_310.out _; (with_reducible repeat (first | refine blk_drewN ?_ _ | refine blk_drew ?_ | refine blk_alloc ?_ _)); exact BK311.out) Try.underlying75 rfl (by kernel_rfl) (.cell gb312 75 #[.int .i64 0, .int .i64 0] (0, 0) _ rfl (by (with_reducible repeat (first | refine blk_drewN ?_ _ | refine blk_drew ?_ | refine blk_alloc ?_ _)); refine blk_put (cs := #[.int .i64 0, .int .i64 0]) ?_ 1 _ rfl; (with_reducible repeat (first | refine blk_drewN ?_ _ | refine blk_drew ?_ | refine blk_alloc ?_ _)); refine blk_put (cs := #[.int .i64 0, .int .i64 0]) ?_ 0 _ rfl; (with_reducible repeat (first | refine blk_drewN ?_ _ | refine blk_drew ?_ | refine blk_alloc ?_ _)); refine blk_far ?_ NB312_311.out _; (with_reducible repeat (first | refine blk_drewN ?_ _ | refine blk_drew ?_ | refine blk_alloc ?_ _)); refine blk_far ?_ NB312_311.out _; (with_reducible repeat (first | refine blk_drewN ?_ _ | refine blk_drew ?_ | refine blk_alloc ?_ _)); refine blk_far ?_ NB312_310.out _; (with_reducible repeat (first | refine blk_drewN ?_ _ | refine blk_drew ?_ | refine blk_alloc ?_ _)); refine blk_far ?_ NB312_310.out _; (with_reducible repeat (first | refine blk_drewN ?_ _ | refine blk_drew ?_ | refine blk_alloc ?_ _)); exact BK312.out) Try.underlying75 rfl (by kernel_rfl) .nil)))) rfl ?_
    exact ⟨by first | rfl | (simp [errW_none, errW_some] <;> rfl) | (simp [*, errW_none, errW_some] <;> rfl), bS HB.out⟩
   ·replace c18 := Bool.eq_false_iff.mpr c18
    subst c18
    rw [if_neg (show ¬ (false = true) by decide)] at H
    (try dsimp only at H)
    have HC26 := aM H
    clear H
    go_upto_if 16 with (fail)
    go_cut [16] (fun v16 wc => ∃ (kq : Nat) (x16_25 : Bool), v16 = .bool x16_25 ∧ Aside0 (impl_counts.j1 kq a0 x16_25 0 0 1 1 = some (r1, r2, r3, r4, r5, r6)) ∧ Aside0 (kq ≤ kj1) ∧ Aside0 (wc.heap[gb310]? = some (.cells #[.int .i64 0, .int .i64 0] 75 (0, 0))) ∧ Aside0 (wc.heap[gb311]? = some (.cells #[.int .i64 0, .int .i64 0] 75 (0, 0))) ∧ Aside0 (wc.heap[gb312]? = some (.cells #[.int .i64 0, .int .i64 0] 75 (0, 0))) ∧ Aside0 (wc.heap[gb313]? = some (.cells #[.int .i64 0, .int .i64 0] 75 (0, 0))) ∧ Aside0 (wc.heap[gb314]? = some (.cells #[.int .i64 1, .int .i64 1] 75 (0, 0))) ∧ Aside0 (Below w.heap.size w wc))
    case first =>
     have H := HC26.out
     clear HC26
     by_cases c27 : a0 = 3
     rotate_left
     ·rw [if_neg c27] at H
      have c27b0 : (a0 == 3) = false := beq_eq_false_iff_ne.mpr c27
      have c27b1 : (a0 != 3) = true := bne_iff_ne.mpr c27
      (first | rw [c27b0] | (simp only [i64_w, i32_w]; rw [c27b0]) | skip)
      have H' := aM H
      clear H
      go_wp2
      go_meet
      case rel => exact ⟨_, ((a0 == 4)), (by first | rfl | (simp; done) | (simp [*]; done)), H', ⟨by have := HJ1.out; first | omega | exact Nat.le_refl _⟩, ⟨by (with_reducible repeat (first | refine blk_drewN ?_ _ | refine blk_drew ?_ | refine blk_alloc ?_ _)); exact BK310.out⟩, ⟨by (with_reducible repeat (first | refine blk_drewN ?_ _ | refine blk_drew ?_ | refine blk_alloc ?_ _)); exact BK311.out⟩, ⟨by (with_reducible repeat (first | refine blk_drewN ?_ _ | refine blk_drew ?_ | refine blk_alloc ?_ _)); exact BK312.out⟩, ⟨by (with_reducible repeat (first | refine blk_drewN ?_ _ | refine blk_drew ?_ | refine blk_alloc ?_ _)); exact BK313.out⟩, ⟨by (with_reducible repeat (first | refine blk_drewN ?_ _ | refine blk_drew ?_ | refine blk_alloc ?_ _)); exact BK314.out⟩, ⟨bS HB.out⟩⟩
     rw [if_pos c27] at H
     have c27b0 : (a0 == 3) = true := beq_iff_eq.mpr c27
     have c27b1 : (a0 != 3) = false := bne_eq_false_iff_eq.mpr c27
     clear c27
     (first | rw [c27b0] | (simp only [i64_w, i32_w]; rw [c27b0]) | skip)
     have H' := aM H
     clear H
     go_wp2
     go_meet
     case rel => exact ⟨_, ((a0 == 3)), (by first | rfl | (simp; done) | (simp [*]; done)), H', ⟨by have := HJ1.out; first | omega | exact Nat.le_refl _⟩, ⟨by (with_reducible repeat (first | refine blk_drewN ?_ _ | refine blk_drew ?_ | refine blk_alloc ?_ _)); exact BK310.out⟩, ⟨by (with_reducible repeat (first | refine blk_drewN ?_ _ | refine blk_drew ?_ | refine blk_alloc ?_ _)); exact BK311.out⟩, ⟨by (with_reducible repeat (first | refine blk_drewN ?_ _ | refine blk_drew ?_ | refine blk_alloc ?_ _)); exact BK312.out⟩, ⟨by (with_reducible repeat (first | refine blk_drewN ?_ _ | refine blk_drew ?_ | refine blk_alloc ?_ _)); exact BK313.out⟩, ⟨by (with_reducible repeat (first | refine blk_drewN ?_ _ | refine blk_drew ?_ | refine blk_alloc ?_ _)); exact BK314.out⟩, ⟨bS HB.out⟩⟩
    case rest =>
     clear HC26
     try clear c1
     try clear p2
     try clear c6
     try clear c8
     try clear c9
     try clear c10
     try clear c11
     try clear c13
     try clear c14
     try clear c15
     try clear c17
     try clear c17b0
     try clear c17b1
     try clear c18
     try clear hcz12_0
     try clear hcz12_1
     try clear hcz16_0
     try clear hcz16_1
     try clear hfz12_0
     try clear hfz12_1
     try clear hfz16_0
     try clear hfz16_1
     try clear p2
     obtain ⟨kq, x16_25, rfl, HA, HJ25, BK310, BK311, BK312, BK313, BK314, HB⟩ := hcut
     cases kq with
     | zero => exact absurd HA.out (by simp [impl_counts.j1])
     | succ kj25 =>
      have H := HA.out
      clear HA
      simp only [impl_counts.j1] at H
      by_cases c28 : x16_25 = true
      ·subst c28
       rw [if_pos rfl] at H
       (try dsimp only at H)
       simp only [Option.some.injEq, Prod.mk.injEq] at H
       obtain ⟨rfl, rfl, rfl, rfl, rfl, rfl⟩ := H
       try go_wp2
       have n0_ := aM (blk_drew BK310.out)
       have n1_ := aM (blk_drew BK311.out)
       have n2_ := aM (blk_drew BK312.out)
       have n3_ := aM (blk_drew BK313.out)
       have n4_ := aM (blk_drew BK314.out)
       have n5_ := aM (below_drew1 HB.out)
       clear BK310
       clear BK311
       clear BK312
       clear BK313
       clear BK314
       clear HB
       have BK310 := n0_
       have BK311 := n1_
       have BK312 := n2_
       have BK313 := n3_
       have BK314 := n4_
       have HB := n5_
       clear n0_ n1_ n2_ n3_ n4_ n5_
       refine start_ (n := 6) (S := fun w' => w'.cell? ⟨gb313, 0, none⟩ = some (.int .i64 0) ∧ w'.cell? ⟨gb313, 1, none⟩ = some (.int .i64 0)) (ds := []) #[false, false, false, false, false, false] (by kernel_rfl) rfl rfl ⟨(blk_cell BK313.out 0).trans rfl, (blk_cell BK313.out 1).trans rfl⟩ (fun hHeld => ?_)
       generalize wc.drew = w29 at BK310 BK311 BK312 BK313 BK314 HB hHeld ⊢
       refine pure_ (i := 0) (N := some 19) (v := ?_) (a' := ?_) #[true, false, false, false, false, false] rfl rfl (by kernel_rfl) (fun _ _ _ h => h) (Or.inl ⟨by rfl, ?_⟩) ?_ ?_
       rotate_left
       ·intro w'
        go_simp
        with_reducible rfl
       rotate_left
       ·simp only [Act.put, List.setIfInBounds_toArray, List.set_cons_zero, List.set_cons_succ, i64_w, i32_w]
        rfl
       refine take_ (i := 1) (N := some 20) (v := ?_) (a' := ?_) #[true, true, false, false, false, false] rfl rfl (by kernel_rfl) (fun _ _ _ h => h) (Or.inl ⟨by rfl, ?_⟩) hHeld ?_ ?_
       rotate_left
       ·rintro w' ⟨s0, s1⟩
        go_simp
        with_reducible rfl
       rotate_left
       ·simp only [Act.put, List.setIfInBounds_toArray, List.set_cons_zero, List.set_cons_succ, i64_w, i32_w]
        rfl
       refine take_ (i := 2) (N := some 21) (v := ?_) (a' := ?_) #[true, true, true, false, false, false] rfl rfl (by kernel_rfl) (fun _ _ _ h => h) (Or.inl ⟨by rfl, ?_⟩) hHeld ?_ ?_
       rotate_left
       ·rintro w' ⟨s0, s1⟩
        go_simp
        with_reducible rfl
       rotate_left
       ·simp only [Act.put, List.setIfInBounds_toArray, List.set_cons_zero, List.set_cons_succ, i64_w, i32_w]
        rfl
       refine one_ (i := 3) (N := none) #[true, true, true, true, false, false] rfl rfl (by kernel_rfl) (by decide) (fun K hK => ?_)
       have hs30 : w29.cell? ⟨gb310, 0, none⟩ = some (.int .i64 0) := (blk_cell BK310.out 0).trans rfl
       have hfs30 := blk_frozen BK310.out 0
       have hns30_1 := NB311_310.out
       have hns30_2 := NB312_310.out
       have hns30_3 := NB313_310.out
       have hns30_4 := NB314_310.out
       have hms30_1 := NB310_311.out
       have hms30_2 := NB310_312.out
       have hms30_3 := NB310_313.out
       have hms30_4 := NB310_314.out
       have hs31 : w29.cell? ⟨gb310, 1, none⟩ = some (.int .i64 0) := (blk_cell BK310.out 1).trans rfl
       have hfs31 := blk_frozen BK310.out 1
       have hns31_1 := NB311_310.out
       have hns31_2 := NB312_310.out
       have hns31_3 := NB313_310.out
       have hns31_4 := NB314_310.out
       have hms31_1 := NB310_311.out
       have hms31_2 := NB310_312.out
       have hms31_3 := NB310_313.out
       have hms31_4 := NB310_314.out
       refine skip_ (w1 := ?_) (by rfl) rfl ?_ ?_
       rotate_left
       ·go_simp
        rfl
       refine hK.out _ _ ⟨((cell_far (p := ⟨gb310, _, none⟩) NB313_310.out _).trans (((cell_far (p := ⟨gb310, _, none⟩) NB313_310.out _).trans (hHeld.1)))), ((cell_far (p := ⟨gb310, _, none⟩) NB313_310.out _).trans (((cell_far (p := ⟨gb310, _, none⟩) NB313_310.out _).trans (hHeld.2))))⟩ (fun hHeld => ?_)
       clear hK K
       refine one_ (i := 4) (N := none) #[true, true, true, true, true, false] rfl rfl (by kernel_rfl) (by decide) (fun K hK => ?_)
       have hs32 : w29.cell? ⟨gb311, 0, none⟩ = some (.int .i64 0) := (blk_cell BK311.out 0).trans rfl
       have hfs32 := blk_frozen BK311.out 0
       have hns32_0 := NB310_311.out
       have hns32_2 := NB312_311.out
       have hns32_3 := NB313_311.out
       have hns32_4 := NB314_311.out
       have hms32_0 := NB311_310.out
       have hms32_2 := NB311_312.out
       have hms32_3 := NB311_313.out
       have hms32_4 := NB311_314.out
       have hs33 : w29.cell? ⟨gb311, 1, none⟩ = some (.int .i64 0) := (blk_cell BK311.out 1).trans rfl
       have hfs33 := blk_frozen BK311.out 1
       have hns33_0 := NB310_311.out
       have hns33_2 := NB312_311.out
       have hns33_3 := NB313_311.out
       have hns33_4 := NB314_311.out
       have hms33_0 := NB311_310.out
       have hms33_2 := NB311_312.out
       have hms33_3 := NB311_313.out
       have hms33_4 := NB311_314.out
       refine skip_ (w1 := ?_) (by rfl) rfl ?_ ?_
       rotate_left
       ·go_simp
        rfl
       refine hK.out _ _ ⟨((cell_far (p := ⟨gb311, _, none⟩) NB313_311.out _).trans (((cell_far (p := ⟨gb311, _, none⟩) NB313_311.out _).trans (hHeld.1)))), ((cell_far (p := ⟨gb311, _, none⟩) NB313_311.out _).trans (((cell_far (p := ⟨gb311, _, none⟩) NB313_311.out _).trans (hHeld.2))))⟩ (fun hHeld => ?_)
       clear hK K
       refine one_ (i := 5) (N := none) #[true, true, true, true, true, true] rfl rfl (by kernel_rfl) (by decide) (fun K hK => ?_)
       have hs34 : w29.cell? ⟨gb312, 0, none⟩ = some (.int .i64 0) := (blk_cell BK312.out 0).trans rfl
       have hfs34 := blk_frozen BK312.out 0
       have hns34_0 := NB310_312.out
       have hns34_1 := NB311_312.out
       have hns34_3 := NB313_312.out
       have hns34_4 := NB314_312.out
       have hms34_0 := NB312_310.out
       have hms34_1 := NB312_311.out
       have hms34_3 := NB312_313.out
       have hms34_4 := NB312_314.out
       have hs35 : w29.cell? ⟨gb312, 1, none⟩ = some (.int .i64 0) := (blk_cell BK312.out 1).trans rfl
       have hfs35 := blk_frozen BK312.out 1
       have hns35_0 := NB310_312.out
       have hns35_1 := NB311_312.out
       have hns35_3 := NB313_312.out
       have hns35_4 := NB314_312.out
       have hms35_0 := NB312_310.out
       have hms35_1 := NB312_311.out
       have hms35_3 := NB312_313.out
       have hms35_4 := NB312_314.out
       refine skip_ (w1 := ?_) (by rfl) rfl ?_ ?_
       rotate_left
       ·go_simp
        rfl
       refine hK.out _ _ ⟨((cell_far (p := ⟨gb312, _, none⟩) NB313_312.out _).trans (((cell_far (p := ⟨gb312, _, none⟩) NB313_312.out _).trans (hHeld.1)))), ((cell_far (p := ⟨gb312, _, none⟩) NB313_312.out _).trans (((cell_far (p := ⟨gb312, _, none⟩) NB313_312.out _).trans (hHeld.2))))⟩ (fun hHeld => ?_)
       clear hK K
       refine done_ (by kernel_rfl) ?_
       try go_wp2
       refine bodyPost_ret (results_list (rs := [.cell 2 75, .cell 3 75, .cell 4 75]) rfl (by simp) (.cell gb310 75 #[.int .i64 1, .int .i64 125] (0, 0) _ rfl (by (with_reducible repeat (first | refine blk_drewN ?_ _ | refine blk_drew ?_ | refine blk_alloc ?_ _)); refine blk_far ?_ NB310_312.out _; (with_reducible repeat (first | refine blk_drewN ?_ _ | refine blk_drew ?_ | refine blk_alloc ?_ _)); refine blk_far ?_ NB310_312.out _; (with_reducible repeat (first | refine blk_drewN ?_ _ | refine blk_drew ?_ | refine blk_alloc ?_ _)); refine blk_far ?_ NB310_311.out _; (with_reducible repeat (first | refine blk_drewN ?_ _ | refine blk_drew ?_ | refine blk_alloc ?_ _)); refine blk_far ?_ NB310_311.out _; (with_reducible repeat (first | refine blk_drewN ?_ _ | refine blk_drew ?_ | refine blk_alloc ?_ _)); refine blk_put (cs := #[.int .i64 1, .int .i64 0]) ?_ 1 _ rfl; (with_reducible repeat (first | refine blk_drewN ?_ _ | refine blk_drew ?_ | refine blk_alloc ?_ _)); refine blk_put (cs := #[.int .i64 0, .int .i64 0]) ?_ 0 _ rfl; (with_reducible repeat (first | refine blk_drewN ?_ _ | refine blk_drew ?_ | refine blk_alloc ?_ _)); exact BK310.out) Try.underlying75 rfl (by kernel_rfl) (.cell gb311 75 #[.int .i64 0, .int .i64 0] (0, 0) _ rfl (by (with_reducible repeat (first | refine blk_drewN ?_ _ | refine blk_drew ?_ | refine blk_alloc ?_ _)); refine blk_far ?_ NB311_312.out _; (with_reducible repeat (first | refine blk_drewN ?_ _ | refine blk_drew ?_ | refine blk_alloc ?_ _)); refine blk_far ?_ NB311_312.out _; (with_reducible repeat (first | refine blk_drewN ?_ _ | refine blk_drew ?_ | refine blk_alloc ?_ _)); refine blk_put (cs := #[.int .i64 0, .int .i64 0]) ?_ 1 _ rfl; (with_reducible repeat (first | refine blk_drewN ?_ _ | refine blk_drew ?_ | refine blk_alloc ?_ _)); refine blk_put (cs := #[.int .i64 0, .int .i64 0]) ?_ 0 _ rfl; (with_reducible repeat (first | refine blk_drewN ?_ _ | refine blk_drew ?_ | refine blk_alloc ?_ _)); refine blk_far ?_ NB311_310.out _; (with_reducible repeat (first | refine blk_drewN ?_ _ | refine blk_drew ?_ | refine blk_alloc ?_ _)); refine blk_far ?_ NB311_310.out _; (with_reducible repeat (first | refine blk_drewN ?_ _ | refine blk_drew ?_ | refine blk_alloc ?_ _)); exact BK311.out) Try.underlying75 rfl (by kernel_rfl) (.cell gb312 75 #[.int .i64 0, .int .i64 0] (0, 0) _ rfl (by (with_reducible repeat (first | refine blk_drewN ?_ _ | refine blk_drew ?_ | refine blk_alloc ?_ _)); refine blk_put (cs := #[.int .i64 0, .int .i64 0]) ?_ 1 _ rfl; (with_reducible repeat (first | refine blk_drewN ?_ _ | refine blk_drew ?_ | refine blk_alloc ?_ _)); refine blk_put (cs := #[.int .i64 0, .int .i64 0]) ?_ 0 _ rfl; (with_reducible repeat (first | refine blk_drewN ?_ _ | refine blk_drew ?_ | refine blk_alloc ?_ _)); refine blk_far ?_ NB312_311.out _; (with_reducible repeat (first | refine blk_drewN ?_ _ | refine blk_drew ?_ | refine blk_alloc ?_ _)); refine blk_far ?_ NB312_311.out _; (with_reducible repeat (first | refine blk_drewN ?_ _ | refine blk_drew ?_ | refine blk_alloc ?_ _)); refine blk_far ?_ NB312_310.out _; (with_reducible repeat (first | refine blk_drewN ?_ _ | refine blk_drew ?_ | refine blk_alloc ?_ _)); refine blk_far ?_ NB312_310.out _; (with_reducible repeat (first | refine blk_drewN ?_ _ | refine blk_drew ?_ | refine blk_alloc ?_ _)); exact BK312.out) Try.underlying75 rfl (by kernel_rfl) .nil)))) rfl ?_
       exact ⟨by first | rfl | (simp [errW_none, errW_some] <;> rfl) | (simp [*, errW_none, errW_some] <;> rfl), bS HB.out⟩
      ·replace c28 := Bool.eq_false_iff.mpr c28
       subst c28
       rw [if_neg (show ¬ (false = true) by decide)] at H
       (try dsimp only at H)
       by_cases c36 : a0 = 5
       ·rw [if_pos c36] at H
        have c36b0 : (a0 == 5) = true := beq_iff_eq.mpr c36
        have c36b1 : (a0 != 5) = false := bne_eq_false_iff_eq.mpr c36
        clear c36
        simp only [Option.some.injEq, Prod.mk.injEq] at H
        obtain ⟨rfl, rfl, rfl, rfl, rfl, rfl⟩ := H
        try go_wp2
        have n0_ := aM (blk_drew BK310.out)
        have n1_ := aM (blk_drew BK311.out)
        have n2_ := aM (blk_drew BK312.out)
        have n3_ := aM (blk_drew BK313.out)
        have n4_ := aM (blk_drew BK314.out)
        have n5_ := aM (below_drew1 HB.out)
        clear BK310
        clear BK311
        clear BK312
        clear BK313
        clear BK314
        clear HB
        have BK310 := n0_
        have BK311 := n1_
        have BK312 := n2_
        have BK313 := n3_
        have BK314 := n4_
        have HB := n5_
        clear n0_ n1_ n2_ n3_ n4_ n5_
        refine start_ (n := 6) (S := fun w' => w'.cell? ⟨gb313, 0, none⟩ = some (.int .i64 0) ∧ w'.cell? ⟨gb313, 1, none⟩ = some (.int .i64 0) ∧ w'.cell? ⟨gb314, 0, none⟩ = some (.int .i64 1) ∧ w'.cell? ⟨gb314, 1, none⟩ = some (.int .i64 1)) (ds := []) #[false, false, false, false, false, false] (by kernel_rfl) rfl rfl ⟨(blk_cell BK313.out 0).trans rfl, (blk_cell BK313.out 1).trans rfl, (blk_cell BK314.out 0).trans rfl, (blk_cell BK314.out 1).trans rfl⟩ (fun hHeld => ?_)
        generalize wc.drew = w37 at BK310 BK311 BK312 BK313 BK314 HB hHeld ⊢
        refine take_ (i := 0) (N := some 24) (v := ?_) (a' := ?_) #[true, false, false, false, false, false] rfl rfl (by kernel_rfl) (fun _ _ _ h => h) (Or.inl ⟨by rfl, ?_⟩) hHeld ?_ ?_
        rotate_left
        ·rintro w' ⟨s0, s1, s2, s3⟩
         go_simp
         with_reducible rfl
        rotate_left
        ·simp only [Act.put, List.setIfInBounds_toArray, List.set_cons_zero, List.set_cons_succ, i64_w, i32_w]
         rfl
        refine take_ (i := 1) (N := some 25) (v := ?_) (a' := ?_) #[true, true, false, false, false, false] rfl rfl (by kernel_rfl) (fun _ _ _ h => h) (Or.inl ⟨by rfl, ?_⟩) hHeld ?_ ?_
        rotate_left
        ·rintro w' ⟨s0, s1, s2, s3⟩
         go_simp
         with_reducible rfl
        rotate_left
        ·simp only [Act.put, List.setIfInBounds_toArray, List.set_cons_zero, List.set_cons_succ, i64_w, i32_w]
         rfl
        refine take_ (i := 2) (N := some 26) (v := ?_) (a' := ?_) #[true, true, true, false, false, false] rfl rfl (by kernel_rfl) (fun _ _ _ h => h) (Or.inl ⟨by rfl, ?_⟩) hHeld ?_ ?_
        rotate_left
        ·rintro w' ⟨s0, s1, s2, s3⟩
         go_simp
         with_reducible rfl
        rotate_left
        ·simp only [Act.put, List.setIfInBounds_toArray, List.set_cons_zero, List.set_cons_succ, i64_w, i32_w]
         rfl
        refine one_ (i := 3) (N := none) #[true, true, true, true, false, false] rfl rfl (by kernel_rfl) (by decide) (fun K hK => ?_)
        have hs38 : w37.cell? ⟨gb310, 0, none⟩ = some (.int .i64 0) := (blk_cell BK310.out 0).trans rfl
        have hfs38 := blk_frozen BK310.out 0
        have hns38_1 := NB311_310.out
        have hns38_2 := NB312_310.out
        have hns38_3 := NB313_310.out
        have hns38_4 := NB314_310.out
        have hms38_1 := NB310_311.out
        have hms38_2 := NB310_312.out
        have hms38_3 := NB310_313.out
        have hms38_4 := NB310_314.out
        have hs39 : w37.cell? ⟨gb310, 1, none⟩ = some (.int .i64 0) := (blk_cell BK310.out 1).trans rfl
        have hfs39 := blk_frozen BK310.out 1
        have hns39_1 := NB311_310.out
        have hns39_2 := NB312_310.out
        have hns39_3 := NB313_310.out
        have hns39_4 := NB314_310.out
        have hms39_1 := NB310_311.out
        have hms39_2 := NB310_312.out
        have hms39_3 := NB310_313.out
        have hms39_4 := NB310_314.out
        refine skip_ (w1 := ?_) (by rfl) rfl ?_ ?_
        rotate_left
        ·go_simp
         rfl
        refine hK.out _ _ ⟨((cell_far (p := ⟨gb310, _, none⟩) NB313_310.out _).trans (((cell_far (p := ⟨gb310, _, none⟩) NB313_310.out _).trans (hHeld.1)))), ((cell_far (p := ⟨gb310, _, none⟩) NB313_310.out _).trans (((cell_far (p := ⟨gb310, _, none⟩) NB313_310.out _).trans (hHeld.2.1)))), ((cell_far (p := ⟨gb310, _, none⟩) NB314_310.out _).trans (((cell_far (p := ⟨gb310, _, none⟩) NB314_310.out _).trans (hHeld.2.2.1)))), ((cell_far (p := ⟨gb310, _, none⟩) NB314_310.out _).trans (((cell_far (p := ⟨gb310, _, none⟩) NB314_310.out _).trans (hHeld.2.2.2))))⟩ (fun hHeld => ?_)
        clear hK K
        refine one_ (i := 4) (N := none) #[true, true, true, true, true, false] rfl rfl (by kernel_rfl) (by decide) (fun K hK => ?_)
        have hs40 : w37.cell? ⟨gb311, 0, none⟩ = some (.int .i64 0) := (blk_cell BK311.out 0).trans rfl
        have hfs40 := blk_frozen BK311.out 0
        have hns40_0 := NB310_311.out
        have hns40_2 := NB312_311.out
        have hns40_3 := NB313_311.out
        have hns40_4 := NB314_311.out
        have hms40_0 := NB311_310.out
        have hms40_2 := NB311_312.out
        have hms40_3 := NB311_313.out
        have hms40_4 := NB311_314.out
        have hs41 : w37.cell? ⟨gb311, 1, none⟩ = some (.int .i64 0) := (blk_cell BK311.out 1).trans rfl
        have hfs41 := blk_frozen BK311.out 1
        have hns41_0 := NB310_311.out
        have hns41_2 := NB312_311.out
        have hns41_3 := NB313_311.out
        have hns41_4 := NB314_311.out
        have hms41_0 := NB311_310.out
        have hms41_2 := NB311_312.out
        have hms41_3 := NB311_313.out
        have hms41_4 := NB311_314.out
        refine skip_ (w1 := ?_) (by rfl) rfl ?_ ?_
        rotate_left
        ·go_simp
         rfl
        refine hK.out _ _ ⟨((cell_far (p := ⟨gb311, _, none⟩) NB313_311.out _).trans (((cell_far (p := ⟨gb311, _, none⟩) NB313_311.out _).trans (hHeld.1)))), ((cell_far (p := ⟨gb311, _, none⟩) NB313_311.out _).trans (((cell_far (p := ⟨gb311, _, none⟩) NB313_311.out _).trans (hHeld.2.1)))), ((cell_far (p := ⟨gb311, _, none⟩) NB314_311.out _).trans (((cell_far (p := ⟨gb311, _, none⟩) NB314_311.out _).trans (hHeld.2.2.1)))), ((cell_far (p := ⟨gb311, _, none⟩) NB314_311.out _).trans (((cell_far (p := ⟨gb311, _, none⟩) NB314_311.out _).trans (hHeld.2.2.2))))⟩ (fun hHeld => ?_)
        clear hK K
        refine one_ (i := 5) (N := none) #[true, true, true, true, true, true] rfl rfl (by kernel_rfl) (by decide) (fun K hK => ?_)
        have hs42 : w37.cell? ⟨gb312, 0, none⟩ = some (.int .i64 0) := (blk_cell BK312.out 0).trans rfl
        have hfs42 := blk_frozen BK312.out 0
        have hns42_0 := NB310_312.out
        have hns42_1 := NB311_312.out
        have hns42_3 := NB313_312.out
        have hns42_4 := NB314_312.out
        have hms42_0 := NB312_310.out
        have hms42_1 := NB312_311.out
        have hms42_3 := NB312_313.out
        have hms42_4 := NB312_314.out
        have hs43 : w37.cell? ⟨gb312, 1, none⟩ = some (.int .i64 0) := (blk_cell BK312.out 1).trans rfl
        have hfs43 := blk_frozen BK312.out 1
        have hns43_0 := NB310_312.out
        have hns43_1 := NB311_312.out
        have hns43_3 := NB313_312.out
        have hns43_4 := NB314_312.out
        have hms43_0 := NB312_310.out
        have hms43_1 := NB312_311.out
        have hms43_3 := NB312_313.out
        have hms43_4 := NB312_314.out
        refine skip_ (w1 := ?_) (by rfl) rfl ?_ ?_
        rotate_left
        ·go_simp
         rfl
        refine hK.out _ _ ⟨((cell_far (p := ⟨gb312, _, none⟩) NB313_312.out _).trans (((cell_far (p := ⟨gb312, _, none⟩) NB313_312.out _).trans (hHeld.1)))), ((cell_far (p := ⟨gb312, _, none⟩) NB313_312.out _).trans (((cell_far (p := ⟨gb312, _, none⟩) NB313_312.out _).trans (hHeld.2.1)))), ((cell_far (p := ⟨gb312, _, none⟩) NB314_312.out _).trans (((cell_far (p := ⟨gb312, _, none⟩) NB314_312.out _).trans (hHeld.2.2.1)))), ((cell_far (p := ⟨gb312, _, none⟩) NB314_312.out _).trans (((cell_far (p := ⟨gb312, _, none⟩) NB314_312.out _).trans (hHeld.2.2.2))))⟩ (fun hHeld => ?_)
        clear hK K
        refine done_ (by kernel_rfl) ?_
        try go_wp2
        refine bodyPost_ret (results_list (rs := [.cell 2 75, .cell 3 75, .cell 4 75]) rfl (by simp) (.cell gb310 75 #[.int .i64 0, .int .i64 0] (0, 0) _ rfl (by (with_reducible repeat (first | refine blk_drewN ?_ _ | refine blk_drew ?_ | refine blk_alloc ?_ _)); refine blk_far ?_ NB310_312.out _; (with_reducible repeat (first | refine blk_drewN ?_ _ | refine blk_drew ?_ | refine blk_alloc ?_ _)); refine blk_far ?_ NB310_312.out _; (with_reducible repeat (first | refine blk_drewN ?_ _ | refine blk_drew ?_ | refine blk_alloc ?_ _)); refine blk_far ?_ NB310_311.out _; (with_reducible repeat (first | refine blk_drewN ?_ _ | refine blk_drew ?_ | refine blk_alloc ?_ _)); refine blk_far ?_ NB310_311.out _; (with_reducible repeat (first | refine blk_drewN ?_ _ | refine blk_drew ?_ | refine blk_alloc ?_ _)); refine blk_put (cs := #[.int .i64 0, .int .i64 0]) ?_ 1 _ rfl; (with_reducible repeat (first | refine blk_drewN ?_ _ | refine blk_drew ?_ | refine blk_alloc ?_ _)); refine blk_put (cs := #[.int .i64 0, .int .i64 0]) ?_ 0 _ rfl; (with_reducible repeat (first | refine blk_drewN ?_ _ | refine blk_drew ?_ | refine blk_alloc ?_ _)); exact BK310.out) Try.underlying75 rfl (by kernel_rfl) (.cell gb311 75 #[.int .i64 0, .int .i64 0] (0, 0) _ rfl (by (with_reducible repeat (first | refine blk_drewN ?_ _ | refine blk_drew ?_ | refine blk_alloc ?_ _)); refine blk_far ?_ NB311_312.out _; (with_reducible repeat (first | refine blk_drewN ?_ _ | refine blk_drew ?_ | refine blk_alloc ?_ _)); refine blk_far ?_ NB311_312.out _; (with_reducible repeat (first | refine blk_drewN ?_ _ | refine blk_drew ?_ | refine blk_alloc ?_ _)); refine blk_put (cs := #[.int .i64 0, .int .i64 0]) ?_ 1 _ rfl; (with_reducible repeat (first | refine blk_drewN ?_ _ | refine blk_drew ?_ | refine blk_alloc ?_ _)); refine blk_put (cs := #[.int .i64 0, .int .i64 0]) ?_ 0 _ rfl; (with_reducible repeat (first | refine blk_drewN ?_ _ | refine blk_drew ?_ | refine blk_alloc ?_ _)); refine blk_far ?_ NB311_310.out _; (with_reducible repeat (first | refine blk_drewN ?_ _ | refine blk_drew ?_ | refine blk_alloc ?_ _)); refine blk_far ?_ NB311_310.out _; (with_reducible repeat (first | refine blk_drewN ?_ _ | refine blk_drew ?_ | refine blk_alloc ?_ _)); exact BK311.out) Try.underlying75 rfl (by kernel_rfl) (.cell gb312 75 #[.int .i64 1, .int .i64 1] (0, 0) _ rfl (by (with_reducible repeat (first | refine blk_drewN ?_ _ | refine blk_drew ?_ | refine blk_alloc ?_ _)); refine blk_put (cs := #[.int .i64 1, .int .i64 0]) ?_ 1 _ rfl; (with_reducible repeat (first | refine blk_drewN ?_ _ | refine blk_drew ?_ | refine blk_alloc ?_ _)); refine blk_put (cs := #[.int .i64 0, .int .i64 0]) ?_ 0 _ rfl; (with_reducible repeat (first | refine blk_drewN ?_ _ | refine blk_drew ?_ | refine blk_alloc ?_ _)); refine blk_far ?_ NB312_311.out _; (with_reducible repeat (first | refine blk_drewN ?_ _ | refine blk_drew ?_ | refine blk_alloc ?_ _)); refine blk_far ?_ NB312_311.out _; (with_reducible repeat (first | refine blk_drewN ?_ _ | refine blk_drew ?_ | refine blk_alloc ?_ _)); refine blk_far ?_ NB312_310.out _; (with_reducible repeat (first | refine blk_drewN ?_ _ | refine blk_drew ?_ | refine blk_alloc ?_ _)); refine blk_far ?_ NB312_310.out _; (with_reducible repeat (first | refine blk_drewN ?_ _ | refine blk_drew ?_ | refine blk_alloc ?_ _)); exact BK312.out) Try.underlying75 rfl (by kernel_rfl) .nil)))) rfl ?_
        exact ⟨by first | rfl | (simp [errW_none, errW_some] <;> rfl) | (simp [*, errW_none, errW_some] <;> rfl), bS HB.out⟩
       ·rw [if_neg c36] at H
        have c36b0 : (a0 == 5) = false := beq_eq_false_iff_ne.mpr c36
        have c36b1 : (a0 != 5) = true := bne_iff_ne.mpr c36
        by_cases c44 : a0 = 6
        ·rw [if_pos c44] at H
         have c44b0 : (a0 == 6) = true := beq_iff_eq.mpr c44
         have c44b1 : (a0 != 6) = false := bne_eq_false_iff_eq.mpr c44
         clear c44
         simp only [Option.some.injEq, Prod.mk.injEq] at H
         obtain ⟨rfl, rfl, rfl, rfl, rfl, rfl⟩ := H
         try go_wp2
         have n0_ := aM (blk_drew BK310.out)
         have n1_ := aM (blk_drew BK311.out)
         have n2_ := aM (blk_drew BK312.out)
         have n3_ := aM (blk_drew BK313.out)
         have n4_ := aM (blk_drew BK314.out)
         have n5_ := aM (below_drew1 HB.out)
         clear BK310
         clear BK311
         clear BK312
         clear BK313
         clear BK314
         clear HB
         have BK310 := n0_
         have BK311 := n1_
         have BK312 := n2_
         have BK313 := n3_
         have BK314 := n4_
         have HB := n5_
         clear n0_ n1_ n2_ n3_ n4_ n5_
         refine start_ (n := 6) (S := fun w' => w'.cell? ⟨gb313, 0, none⟩ = some (.int .i64 0) ∧ w'.cell? ⟨gb313, 1, none⟩ = some (.int .i64 0) ∧ w'.cell? ⟨gb314, 0, none⟩ = some (.int .i64 1) ∧ w'.cell? ⟨gb314, 1, none⟩ = some (.int .i64 1)) (ds := []) #[false, false, false, false, false, false] (by kernel_rfl) rfl rfl ⟨(blk_cell BK313.out 0).trans rfl, (blk_cell BK313.out 1).trans rfl, (blk_cell BK314.out 0).trans rfl, (blk_cell BK314.out 1).trans rfl⟩ (fun hHeld => ?_)
         generalize wc.drew = w45 at BK310 BK311 BK312 BK313 BK314 HB hHeld ⊢
         refine take_ (i := 0) (N := some 29) (v := ?_) (a' := ?_) #[true, false, false, false, false, false] rfl rfl (by kernel_rfl) (fun _ _ _ h => h) (Or.inl ⟨by rfl, ?_⟩) hHeld ?_ ?_
         rotate_left
         ·rintro w' ⟨s0, s1, s2, s3⟩
          go_simp
          with_reducible rfl
         rotate_left
         ·simp only [Act.put, List.setIfInBounds_toArray, List.set_cons_zero, List.set_cons_succ, i64_w, i32_w]
          rfl
         refine take_ (i := 1) (N := some 30) (v := ?_) (a' := ?_) #[true, true, false, false, false, false] rfl rfl (by kernel_rfl) (fun _ _ _ h => h) (Or.inl ⟨by rfl, ?_⟩) hHeld ?_ ?_
         rotate_left
         ·rintro w' ⟨s0, s1, s2, s3⟩
          go_simp
          with_reducible rfl
         rotate_left
         ·simp only [Act.put, List.setIfInBounds_toArray, List.set_cons_zero, List.set_cons_succ, i64_w, i32_w]
          rfl
         refine take_ (i := 2) (N := some 31) (v := ?_) (a' := ?_) #[true, true, true, false, false, false] rfl rfl (by kernel_rfl) (fun _ _ _ h => h) (Or.inl ⟨by rfl, ?_⟩) hHeld ?_ ?_
         rotate_left
         ·rintro w' ⟨s0, s1, s2, s3⟩
          go_simp
          with_reducible rfl
         rotate_left
         ·simp only [Act.put, List.setIfInBounds_toArray, List.set_cons_zero, List.set_cons_succ, i64_w, i32_w]
          rfl
         refine one_ (i := 3) (N := none) #[true, true, true, true, false, false] rfl rfl (by kernel_rfl) (by decide) (fun K hK => ?_)
         have hs46 : w45.cell? ⟨gb310, 0, none⟩ = some (.int .i64 0) := (blk_cell BK310.out 0).trans rfl
         have hfs46 := blk_frozen BK310.out 0
         have hns46_1 := NB311_310.out
         have hns46_2 := NB312_310.out
         have hns46_3 := NB313_310.out
         have hns46_4 := NB314_310.out
         have hms46_1 := NB310_311.out
         have hms46_2 := NB310_312.out
         have hms46_3 := NB310_313.out
         have hms46_4 := NB310_314.out
         have hs47 : w45.cell? ⟨gb310, 1, none⟩ = some (.int .i64 0) := (blk_cell BK310.out 1).trans rfl
         have hfs47 := blk_frozen BK310.out 1
         have hns47_1 := NB311_310.out
         have hns47_2 := NB312_310.out
         have hns47_3 := NB313_310.out
         have hns47_4 := NB314_310.out
         have hms47_1 := NB310_311.out
         have hms47_2 := NB310_312.out
         have hms47_3 := NB310_313.out
         have hms47_4 := NB310_314.out
         refine skip_ (w1 := ?_) (by rfl) rfl ?_ ?_
         rotate_left
         ·go_simp
          rfl
         refine hK.out _ _ ⟨((cell_far (p := ⟨gb310, _, none⟩) NB313_310.out _).trans (((cell_far (p := ⟨gb310, _, none⟩) NB313_310.out _).trans (hHeld.1)))), ((cell_far (p := ⟨gb310, _, none⟩) NB313_310.out _).trans (((cell_far (p := ⟨gb310, _, none⟩) NB313_310.out _).trans (hHeld.2.1)))), ((cell_far (p := ⟨gb310, _, none⟩) NB314_310.out _).trans (((cell_far (p := ⟨gb310, _, none⟩) NB314_310.out _).trans (hHeld.2.2.1)))), ((cell_far (p := ⟨gb310, _, none⟩) NB314_310.out _).trans (((cell_far (p := ⟨gb310, _, none⟩) NB314_310.out _).trans (hHeld.2.2.2))))⟩ (fun hHeld => ?_)
         clear hK K
         refine one_ (i := 4) (N := none) #[true, true, true, true, true, false] rfl rfl (by kernel_rfl) (by decide) (fun K hK => ?_)
         have hs48 : w45.cell? ⟨gb311, 0, none⟩ = some (.int .i64 0) := (blk_cell BK311.out 0).trans rfl
         have hfs48 := blk_frozen BK311.out 0
         have hns48_0 := NB310_311.out
         have hns48_2 := NB312_311.out
         have hns48_3 := NB313_311.out
         have hns48_4 := NB314_311.out
         have hms48_0 := NB311_310.out
         have hms48_2 := NB311_312.out
         have hms48_3 := NB311_313.out
         have hms48_4 := NB311_314.out
         have hs49 : w45.cell? ⟨gb311, 1, none⟩ = some (.int .i64 0) := (blk_cell BK311.out 1).trans rfl
         have hfs49 := blk_frozen BK311.out 1
         have hns49_0 := NB310_311.out
         have hns49_2 := NB312_311.out
         have hns49_3 := NB313_311.out
         have hns49_4 := NB314_311.out
         have hms49_0 := NB311_310.out
         have hms49_2 := NB311_312.out
         have hms49_3 := NB311_313.out
         have hms49_4 := NB311_314.out
         refine skip_ (w1 := ?_) (by rfl) rfl ?_ ?_
         rotate_left
         ·go_simp
          rfl
         refine hK.out _ _ ⟨((cell_far (p := ⟨gb311, _, none⟩) NB313_311.out _).trans (((cell_far (p := ⟨gb311, _, none⟩) NB313_311.out _).trans (hHeld.1)))), ((cell_far (p := ⟨gb311, _, none⟩) NB313_311.out _).trans (((cell_far (p := ⟨gb311, _, none⟩) NB313_311.out _).trans (hHeld.2.1)))), ((cell_far (p := ⟨gb311, _, none⟩) NB314_311.out _).trans (((cell_far (p := ⟨gb311, _, none⟩) NB314_311.out _).trans (hHeld.2.2.1)))), ((cell_far (p := ⟨gb311, _, none⟩) NB314_311.out _).trans (((cell_far (p := ⟨gb311, _, none⟩) NB314_311.out _).trans (hHeld.2.2.2))))⟩ (fun hHeld => ?_)
         clear hK K
         refine one_ (i := 5) (N := none) #[true, true, true, true, true, true] rfl rfl (by kernel_rfl) (by decide) (fun K hK => ?_)
         have hs50 : w45.cell? ⟨gb312, 0, none⟩ = some (.int .i64 0) := (blk_cell BK312.out 0).trans rfl
         have hfs50 := blk_frozen BK312.out 0
         have hns50_0 := NB310_312.out
         have hns50_1 := NB311_312.out
         have hns50_3 := NB313_312.out
         have hns50_4 := NB314_312.out
         have hms50_0 := NB312_310.out
         have hms50_1 := NB312_311.out
         have hms50_3 := NB312_313.out
         have hms50_4 := NB312_314.out
         have hs51 : w45.cell? ⟨gb312, 1, none⟩ = some (.int .i64 0) := (blk_cell BK312.out 1).trans rfl
         have hfs51 := blk_frozen BK312.out 1
         have hns51_0 := NB310_312.out
         have hns51_1 := NB311_312.out
         have hns51_3 := NB313_312.out
         have hns51_4 := NB314_312.out
         have hms51_0 := NB312_310.out
         have hms51_1 := NB312_311.out
         have hms51_3 := NB312_313.out
         have hms51_4 := NB312_314.out
         refine skip_ (w1 := ?_) (by rfl) rfl ?_ ?_
         rotate_left
         ·go_simp
          rfl
         refine hK.out _ _ ⟨((cell_far (p := ⟨gb312, _, none⟩) NB313_312.out _).trans (((cell_far (p := ⟨gb312, _, none⟩) NB313_312.out _).trans (hHeld.1)))), ((cell_far (p := ⟨gb312, _, none⟩) NB313_312.out _).trans (((cell_far (p := ⟨gb312, _, none⟩) NB313_312.out _).trans (hHeld.2.1)))), ((cell_far (p := ⟨gb312, _, none⟩) NB314_312.out _).trans (((cell_far (p := ⟨gb312, _, none⟩) NB314_312.out _).trans (hHeld.2.2.1)))), ((cell_far (p := ⟨gb312, _, none⟩) NB314_312.out _).trans (((cell_far (p := ⟨gb312, _, none⟩) NB314_312.out _).trans (hHeld.2.2.2))))⟩ (fun hHeld => ?_)
         clear hK K
         refine done_ (by kernel_rfl) ?_
         try go_wp2
         refine bodyPost_ret (results_list (rs := [.cell 2 75, .cell 3 75, .cell 4 75]) rfl (by simp) (.cell gb310 75 #[.int .i64 0, .int .i64 0] (0, 0) _ rfl (by (with_reducible repeat (first | refine blk_drewN ?_ _ | refine blk_drew ?_ | refine blk_alloc ?_ _)); refine blk_far ?_ NB310_312.out _; (with_reducible repeat (first | refine blk_drewN ?_ _ | refine blk_drew ?_ | refine blk_alloc ?_ _)); refine blk_far ?_ NB310_312.out _; (with_reducible repeat (first | refine blk_drewN ?_ _ | refine blk_drew ?_ | refine blk_alloc ?_ _)); refine blk_far ?_ NB310_311.out _; (with_reducible repeat (first | refine blk_drewN ?_ _ | refine blk_drew ?_ | refine blk_alloc ?_ _)); refine blk_far ?_ NB310_311.out _; (with_reducible repeat (first | refine blk_drewN ?_ _ | refine blk_drew ?_ | refine blk_alloc ?_ _)); refine blk_put (cs := #[.int .i64 0, .int .i64 0]) ?_ 1 _ rfl; (with_reducible repeat (first | refine blk_drewN ?_ _ | refine blk_drew ?_ | refine blk_alloc ?_ _)); refine blk_put (cs := #[.int .i64 0, .int .i64 0]) ?_ 0 _ rfl; (with_reducible repeat (first | refine blk_drewN ?_ _ | refine blk_drew ?_ | refine blk_alloc ?_ _)); exact BK310.out) Try.underlying75 rfl (by kernel_rfl) (.cell gb311 75 #[.int .i64 1, .int .i64 1] (0, 0) _ rfl (by (with_reducible repeat (first | refine blk_drewN ?_ _ | refine blk_drew ?_ | refine blk_alloc ?_ _)); refine blk_far ?_ NB311_312.out _; (with_reducible repeat (first | refine blk_drewN ?_ _ | refine blk_drew ?_ | refine blk_alloc ?_ _)); refine blk_far ?_ NB311_312.out _; (with_reducible repeat (first | refine blk_drewN ?_ _ | refine blk_drew ?_ | refine blk_alloc ?_ _)); refine blk_put (cs := #[.int .i64 1, .int .i64 0]) ?_ 1 _ rfl; (with_reducible repeat (first | refine blk_drewN ?_ _ | refine blk_drew ?_ | refine blk_alloc ?_ _)); refine blk_put (cs := #[.int .i64 0, .int .i64 0]) ?_ 0 _ rfl; (with_reducible repeat (first | refine blk_drewN ?_ _ | refine blk_drew ?_ | refine blk_alloc ?_ _)); refine blk_far ?_ NB311_310.out _; (with_reducible repeat (first | refine blk_drewN ?_ _ | refine blk_drew ?_ | refine blk_alloc ?_ _)); refine blk_far ?_ NB311_310.out _; (with_reducible repeat (first | refine blk_drewN ?_ _ | refine blk_drew ?_ | refine blk_alloc ?_ _)); exact BK311.out) Try.underlying75 rfl (by kernel_rfl) (.cell gb312 75 #[.int .i64 0, .int .i64 0] (0, 0) _ rfl (by (with_reducible repeat (first | refine blk_drewN ?_ _ | refine blk_drew ?_ | refine blk_alloc ?_ _)); refine blk_put (cs := #[.int .i64 0, .int .i64 0]) ?_ 1 _ rfl; (with_reducible repeat (first | refine blk_drewN ?_ _ | refine blk_drew ?_ | refine blk_alloc ?_ _)); refine blk_put (cs := #[.int .i64 0, .int .i64 0]) ?_ 0 _ rfl; (with_reducible repeat (first | refine blk_drewN ?_ _ | refine blk_drew ?_ | refine blk_alloc ?_ _)); refine blk_far ?_ NB312_311.out _; (with_reducible repeat (first | refine blk_drewN ?_ _ | refine blk_drew ?_ | refine blk_alloc ?_ _)); refine blk_far ?_ NB312_311.out _; (with_reducible repeat (first | refine blk_drewN ?_ _ | refine blk_drew ?_ | refine blk_alloc ?_ _)); refine blk_far ?_ NB312_310.out _; (with_reducible repeat (first | refine blk_drewN ?_ _ | refine blk_drew ?_ | refine blk_alloc ?_ _)); refine blk_far ?_ NB312_310.out _; (with_reducible repeat (first | refine blk_drewN ?_ _ | refine blk_drew ?_ | refine blk_alloc ?_ _)); exact BK312.out) Try.underlying75 rfl (by kernel_rfl) .nil)))) rfl ?_
         exact ⟨by first | rfl | (simp [errW_none, errW_some] <;> rfl) | (simp [*, errW_none, errW_some] <;> rfl), bS HB.out⟩
        ·rw [if_neg c44] at H
         have c44b0 : (a0 == 6) = false := beq_eq_false_iff_ne.mpr c44
         have c44b1 : (a0 != 6) = true := bne_iff_ne.mpr c44
         by_cases c52 : a0 = 15
         ·rw [if_pos c52] at H
          have c52b0 : (a0 == 15) = true := beq_iff_eq.mpr c52
          have c52b1 : (a0 != 15) = false := bne_eq_false_iff_eq.mpr c52
          clear c52
          simp only [Option.some.injEq, Prod.mk.injEq] at H
          obtain ⟨rfl, rfl, rfl, rfl, rfl, rfl⟩ := H
          try go_wp2
          have n0_ := aM (blk_drew BK310.out)
          have n1_ := aM (blk_drew BK311.out)
          have n2_ := aM (blk_drew BK312.out)
          have n3_ := aM (blk_drew BK313.out)
          have n4_ := aM (blk_drew BK314.out)
          have n5_ := aM (below_drew1 HB.out)
          clear BK310
          clear BK311
          clear BK312
          clear BK313
          clear BK314
          clear HB
          have BK310 := n0_
          have BK311 := n1_
          have BK312 := n2_
          have BK313 := n3_
          have BK314 := n4_
          have HB := n5_
          clear n0_ n1_ n2_ n3_ n4_ n5_
          refine start_ (n := 6) (S := fun w' => w'.cell? ⟨gb313, 0, none⟩ = some (.int .i64 0) ∧ w'.cell? ⟨gb313, 1, none⟩ = some (.int .i64 0)) (ds := []) #[false, false, false, false, false, false] (by kernel_rfl) rfl rfl ⟨(blk_cell BK313.out 0).trans rfl, (blk_cell BK313.out 1).trans rfl⟩ (fun hHeld => ?_)
          generalize wc.drew = w53 at BK310 BK311 BK312 BK313 BK314 HB hHeld ⊢
          refine pure_ (i := 2) (N := some 36) (v := ?_) (a' := ?_) #[false, false, true, false, false, false] rfl rfl (by kernel_rfl) (fun _ _ _ h => h) (Or.inl ⟨by rfl, ?_⟩) ?_ ?_
          rotate_left
          ·intro w'
           go_simp
           with_reducible rfl
          rotate_left
          ·simp only [Act.put, List.setIfInBounds_toArray, List.set_cons_zero, List.set_cons_succ, i64_w, i32_w]
           rfl
          refine take_ (i := 0) (N := some 34) (v := ?_) (a' := ?_) #[true, false, true, false, false, false] rfl rfl (by kernel_rfl) (fun _ _ _ h => h) (Or.inl ⟨by rfl, ?_⟩) hHeld ?_ ?_
          rotate_left
          ·rintro w' ⟨s0, s1⟩
           go_simp
           with_reducible rfl
          rotate_left
          ·simp only [Act.put, List.setIfInBounds_toArray, List.set_cons_zero, List.set_cons_succ, i64_w, i32_w]
           rfl
          refine take_ (i := 1) (N := some 35) (v := ?_) (a' := ?_) #[true, true, true, false, false, false] rfl rfl (by kernel_rfl) (fun _ _ _ h => h) (Or.inl ⟨by rfl, ?_⟩) hHeld ?_ ?_
          rotate_left
          ·rintro w' ⟨s0, s1⟩
           go_simp
           with_reducible rfl
          rotate_left
          ·simp only [Act.put, List.setIfInBounds_toArray, List.set_cons_zero, List.set_cons_succ, i64_w, i32_w]
           rfl
          refine one_ (i := 3) (N := none) #[true, true, true, true, false, false] rfl rfl (by kernel_rfl) (by decide) (fun K hK => ?_)
          have hs54 : w53.cell? ⟨gb310, 0, none⟩ = some (.int .i64 0) := (blk_cell BK310.out 0).trans rfl
          have hfs54 := blk_frozen BK310.out 0
          have hns54_1 := NB311_310.out
          have hns54_2 := NB312_310.out
          have hns54_3 := NB313_310.out
          have hns54_4 := NB314_310.out
          have hms54_1 := NB310_311.out
          have hms54_2 := NB310_312.out
          have hms54_3 := NB310_313.out
          have hms54_4 := NB310_314.out
          have hs55 : w53.cell? ⟨gb310, 1, none⟩ = some (.int .i64 0) := (blk_cell BK310.out 1).trans rfl
          have hfs55 := blk_frozen BK310.out 1
          have hns55_1 := NB311_310.out
          have hns55_2 := NB312_310.out
          have hns55_3 := NB313_310.out
          have hns55_4 := NB314_310.out
          have hms55_1 := NB310_311.out
          have hms55_2 := NB310_312.out
          have hms55_3 := NB310_313.out
          have hms55_4 := NB310_314.out
          refine skip_ (w1 := ?_) (by rfl) rfl ?_ ?_
          rotate_left
          ·go_simp
           rfl
          refine hK.out _ _ ⟨((cell_far (p := ⟨gb310, _, none⟩) NB313_310.out _).trans (((cell_far (p := ⟨gb310, _, none⟩) NB313_310.out _).trans (hHeld.1)))), ((cell_far (p := ⟨gb310, _, none⟩) NB313_310.out _).trans (((cell_far (p := ⟨gb310, _, none⟩) NB313_310.out _).trans (hHeld.2))))⟩ (fun hHeld => ?_)
          clear hK K
          refine one_ (i := 4) (N := none) #[true, true, true, true, true, false] rfl rfl (by kernel_rfl) (by decide) (fun K hK => ?_)
          have hs56 : w53.cell? ⟨gb311, 0, none⟩ = some (.int .i64 0) := (blk_cell BK311.out 0).trans rfl
          have hfs56 := blk_frozen BK311.out 0
          have hns56_0 := NB310_311.out
          have hns56_2 := NB312_311.out
          have hns56_3 := NB313_311.out
          have hns56_4 := NB314_311.out
          have hms56_0 := NB311_310.out
          have hms56_2 := NB311_312.out
          have hms56_3 := NB311_313.out
          have hms56_4 := NB311_314.out
          have hs57 : w53.cell? ⟨gb311, 1, none⟩ = some (.int .i64 0) := (blk_cell BK311.out 1).trans rfl
          have hfs57 := blk_frozen BK311.out 1
          have hns57_0 := NB310_311.out
          have hns57_2 := NB312_311.out
          have hns57_3 := NB313_311.out
          have hns57_4 := NB314_311.out
          have hms57_0 := NB311_310.out
          have hms57_2 := NB311_312.out
          have hms57_3 := NB311_313.out
          have hms57_4 := NB311_314.out
          refine skip_ (w1 := ?_) (by rfl) rfl ?_ ?_
          rotate_left
          ·go_simp
           rfl
          refine hK.out _ _ ⟨((cell_far (p := ⟨gb311, _, none⟩) NB313_311.out _).trans (((cell_far (p := ⟨gb311, _, none⟩) NB313_311.out _).trans (hHeld.1)))), ((cell_far (p := ⟨gb311, _, none⟩) NB313_311.out _).trans (((cell_far (p := ⟨gb311, _, none⟩) NB313_311.out _).trans (hHeld.2))))⟩ (fun hHeld => ?_)
          clear hK K
          refine one_ (i := 5) (N := none) #[true, true, true, true, true, true] rfl rfl (by kernel_rfl) (by decide) (fun K hK => ?_)
          have hs58 : w53.cell? ⟨gb312, 0, none⟩ = some (.int .i64 0) := (blk_cell BK312.out 0).trans rfl
          have hfs58 := blk_frozen BK312.out 0
          have hns58_0 := NB310_312.out
          have hns58_1 := NB311_312.out
          have hns58_3 := NB313_312.out
          have hns58_4 := NB314_312.out
          have hms58_0 := NB312_310.out
          have hms58_1 := NB312_311.out
          have hms58_3 := NB312_313.out
          have hms58_4 := NB312_314.out
          have hs59 : w53.cell? ⟨gb312, 1, none⟩ = some (.int .i64 0) := (blk_cell BK312.out 1).trans rfl
          have hfs59 := blk_frozen BK312.out 1
          have hns59_0 := NB310_312.out
          have hns59_1 := NB311_312.out
          have hns59_3 := NB313_312.out
          have hns59_4 := NB314_312.out
          have hms59_0 := NB312_310.out
          have hms59_1 := NB312_311.out
          have hms59_3 := NB312_313.out
          have hms59_4 := NB312_314.out
          refine skip_ (w1 := ?_) (by rfl) rfl ?_ ?_
          rotate_left
          ·go_simp
           rfl
          refine hK.out _ _ ⟨((cell_far (p := ⟨gb312, _, none⟩) NB313_312.out _).trans (((cell_far (p := ⟨gb312, _, none⟩) NB313_312.out _).trans (hHeld.1)))), ((cell_far (p := ⟨gb312, _, none⟩) NB313_312.out _).trans (((cell_far (p := ⟨gb312, _, none⟩) NB313_312.out _).trans (hHeld.2))))⟩ (fun hHeld => ?_)
          clear hK K
          refine done_ (by kernel_rfl) ?_
          try go_wp2
          refine bodyPost_ret (results_list (rs := [.cell 2 75, .cell 3 75, .cell 4 75]) rfl (by simp) (.cell gb310 75 #[.int .i64 0, .int .i64 0] (0, 0) _ rfl (by (with_reducible repeat (first | refine blk_drewN ?_ _ | refine blk_drew ?_ | refine blk_alloc ?_ _)); refine blk_far ?_ NB310_312.out _; (with_reducible repeat (first | refine blk_drewN ?_ _ | refine blk_drew ?_ | refine blk_alloc ?_ _)); refine blk_far ?_ NB310_312.out _; (with_reducible repeat (first | refine blk_drewN ?_ _ | refine blk_drew ?_ | refine blk_alloc ?_ _)); refine blk_far ?_ NB310_311.out _; (with_reducible repeat (first | refine blk_drewN ?_ _ | refine blk_drew ?_ | refine blk_alloc ?_ _)); refine blk_far ?_ NB310_311.out _; (with_reducible repeat (first | refine blk_drewN ?_ _ | refine blk_drew ?_ | refine blk_alloc ?_ _)); refine blk_put (cs := #[.int .i64 0, .int .i64 0]) ?_ 1 _ rfl; (with_reducible repeat (first | refine blk_drewN ?_ _ | refine blk_drew ?_ | refine blk_alloc ?_ _)); refine blk_put (cs := #[.int .i64 0, .int .i64 0]) ?_ 0 _ rfl; (with_reducible repeat (first | refine blk_drewN ?_ _ | refine blk_drew ?_ | refine blk_alloc ?_ _)); exact BK310.out) Try.underlying75 rfl (by kernel_rfl) (.cell gb311 75 #[.int .i64 0, .int .i64 0] (0, 0) _ rfl (by (with_reducible repeat (first | refine blk_drewN ?_ _ | refine blk_drew ?_ | refine blk_alloc ?_ _)); refine blk_far ?_ NB311_312.out _; (with_reducible repeat (first | refine blk_drewN ?_ _ | refine blk_drew ?_ | refine blk_alloc ?_ _)); refine blk_far ?_ NB311_312.out _; (with_reducible repeat (first | refine blk_drewN ?_ _ | refine blk_drew ?_ | refine blk_alloc ?_ _)); refine blk_put (cs := #[.int .i64 0, .int .i64 0]) ?_ 1 _ rfl; (with_reducible repeat (first | refine blk_drewN ?_ _ | refine blk_drew ?_ | refine blk_alloc ?_ _)); refine blk_put (cs := #[.int .i64 0, .int .i64 0]) ?_ 0 _ rfl; (with_reducible repeat (first | refine blk_drewN ?_ _ | refine blk_drew ?_ | refine blk_alloc ?_ _)); refine blk_far ?_ NB311_310.out _; (with_reducible repeat (first | refine blk_drewN ?_ _ | refine blk_drew ?_ | refine blk_alloc ?_ _)); refine blk_far ?_ NB311_310.out _; (with_reducible repeat (first | refine blk_drewN ?_ _ | refine blk_drew ?_ | refine blk_alloc ?_ _)); exact BK311.out) Try.underlying75 rfl (by kernel_rfl) (.cell gb312 75 #[.int .i64 1, .int .i64 1968] (0, 0) _ rfl (by (with_reducible repeat (first | refine blk_drewN ?_ _ | refine blk_drew ?_ | refine blk_alloc ?_ _)); refine blk_put (cs := #[.int .i64 1, .int .i64 0]) ?_ 1 _ rfl; (with_reducible repeat (first | refine blk_drewN ?_ _ | refine blk_drew ?_ | refine blk_alloc ?_ _)); refine blk_put (cs := #[.int .i64 0, .int .i64 0]) ?_ 0 _ rfl; (with_reducible repeat (first | refine blk_drewN ?_ _ | refine blk_drew ?_ | refine blk_alloc ?_ _)); refine blk_far ?_ NB312_311.out _; (with_reducible repeat (first | refine blk_drewN ?_ _ | refine blk_drew ?_ | refine blk_alloc ?_ _)); refine blk_far ?_ NB312_311.out _; (with_reducible repeat (first | refine blk_drewN ?_ _ | refine blk_drew ?_ | refine blk_alloc ?_ _)); refine blk_far ?_ NB312_310.out _; (with_reducible repeat (first | refine blk_drewN ?_ _ | refine blk_drew ?_ | refine blk_alloc ?_ _)); refine blk_far ?_ NB312_310.out _; (with_reducible repeat (first | refine blk_drewN ?_ _ | refine blk_drew ?_ | refine blk_alloc ?_ _)); exact BK312.out) Try.underlying75 rfl (by kernel_rfl) .nil)))) rfl ?_
          exact ⟨by first | rfl | (simp [errW_none, errW_some] <;> rfl) | (simp [*, errW_none, errW_some] <;> rfl), bS HB.out⟩
         ·rw [if_neg c52] at H
          have c52b0 : (a0 == 15) = false := beq_eq_false_iff_ne.mpr c52
          have c52b1 : (a0 != 15) = true := bne_iff_ne.mpr c52
          by_cases c60 : a0 = 16
          ·rw [if_pos c60] at H
           have c60b0 : (a0 == 16) = true := beq_iff_eq.mpr c60
           have c60b1 : (a0 != 16) = false := bne_eq_false_iff_eq.mpr c60
           clear c60
           simp only [Option.some.injEq, Prod.mk.injEq] at H
           obtain ⟨rfl, rfl, rfl, rfl, rfl, rfl⟩ := H
           try go_wp2
           have n0_ := aM (blk_drew BK310.out)
           have n1_ := aM (blk_drew BK311.out)
           have n2_ := aM (blk_drew BK312.out)
           have n3_ := aM (blk_drew BK313.out)
           have n4_ := aM (blk_drew BK314.out)
           have n5_ := aM (below_drew1 HB.out)
           clear BK310
           clear BK311
           clear BK312
           clear BK313
           clear BK314
           clear HB
           have BK310 := n0_
           have BK311 := n1_
           have BK312 := n2_
           have BK313 := n3_
           have BK314 := n4_
           have HB := n5_
           clear n0_ n1_ n2_ n3_ n4_ n5_
           refine start_ (n := 6) (S := fun w' => w'.cell? ⟨gb313, 0, none⟩ = some (.int .i64 0) ∧ w'.cell? ⟨gb313, 1, none⟩ = some (.int .i64 0)) (ds := []) #[false, false, false, false, false, false] (by kernel_rfl) rfl rfl ⟨(blk_cell BK313.out 0).trans rfl, (blk_cell BK313.out 1).trans rfl⟩ (fun hHeld => ?_)
           generalize wc.drew = w61 at BK310 BK311 BK312 BK313 BK314 HB hHeld ⊢
           refine pure_ (i := 1) (N := some 40) (v := ?_) (a' := ?_) #[false, true, false, false, false, false] rfl rfl (by kernel_rfl) (fun _ _ _ h => h) (Or.inl ⟨by rfl, ?_⟩) ?_ ?_
           rotate_left
           ·intro w'
            go_simp
            with_reducible rfl
           rotate_left
           ·simp only [Act.put, List.setIfInBounds_toArray, List.set_cons_zero, List.set_cons_succ, i64_w, i32_w]
            rfl
           refine take_ (i := 0) (N := some 39) (v := ?_) (a' := ?_) #[true, true, false, false, false, false] rfl rfl (by kernel_rfl) (fun _ _ _ h => h) (Or.inl ⟨by rfl, ?_⟩) hHeld ?_ ?_
           rotate_left
           ·rintro w' ⟨s0, s1⟩
            go_simp
            with_reducible rfl
           rotate_left
           ·simp only [Act.put, List.setIfInBounds_toArray, List.set_cons_zero, List.set_cons_succ, i64_w, i32_w]
            rfl
           refine take_ (i := 2) (N := some 41) (v := ?_) (a' := ?_) #[true, true, true, false, false, false] rfl rfl (by kernel_rfl) (fun _ _ _ h => h) (Or.inl ⟨by rfl, ?_⟩) hHeld ?_ ?_
           rotate_left
           ·rintro w' ⟨s0, s1⟩
            go_simp
            with_reducible rfl
           rotate_left
           ·simp only [Act.put, List.setIfInBounds_toArray, List.set_cons_zero, List.set_cons_succ, i64_w, i32_w]
            rfl
           refine one_ (i := 3) (N := none) #[true, true, true, true, false, false] rfl rfl (by kernel_rfl) (by decide) (fun K hK => ?_)
           have hs62 : w61.cell? ⟨gb310, 0, none⟩ = some (.int .i64 0) := (blk_cell BK310.out 0).trans rfl
           have hfs62 := blk_frozen BK310.out 0
           have hns62_1 := NB311_310.out
           have hns62_2 := NB312_310.out
           have hns62_3 := NB313_310.out
           have hns62_4 := NB314_310.out
           have hms62_1 := NB310_311.out
           have hms62_2 := NB310_312.out
           have hms62_3 := NB310_313.out
           have hms62_4 := NB310_314.out
           have hs63 : w61.cell? ⟨gb310, 1, none⟩ = some (.int .i64 0) := (blk_cell BK310.out 1).trans rfl
           have hfs63 := blk_frozen BK310.out 1
           have hns63_1 := NB311_310.out
           have hns63_2 := NB312_310.out
           have hns63_3 := NB313_310.out
           have hns63_4 := NB314_310.out
           have hms63_1 := NB310_311.out
           have hms63_2 := NB310_312.out
           have hms63_3 := NB310_313.out
           have hms63_4 := NB310_314.out
           refine skip_ (w1 := ?_) (by rfl) rfl ?_ ?_
           rotate_left
           ·go_simp
            rfl
           refine hK.out _ _ ⟨((cell_far (p := ⟨gb310, _, none⟩) NB313_310.out _).trans (((cell_far (p := ⟨gb310, _, none⟩) NB313_310.out _).trans (hHeld.1)))), ((cell_far (p := ⟨gb310, _, none⟩) NB313_310.out _).trans (((cell_far (p := ⟨gb310, _, none⟩) NB313_310.out _).trans (hHeld.2))))⟩ (fun hHeld => ?_)
           clear hK K
           refine one_ (i := 4) (N := none) #[true, true, true, true, true, false] rfl rfl (by kernel_rfl) (by decide) (fun K hK => ?_)
           have hs64 : w61.cell? ⟨gb311, 0, none⟩ = some (.int .i64 0) := (blk_cell BK311.out 0).trans rfl
           have hfs64 := blk_frozen BK311.out 0
           have hns64_0 := NB310_311.out
           have hns64_2 := NB312_311.out
           have hns64_3 := NB313_311.out
           have hns64_4 := NB314_311.out
           have hms64_0 := NB311_310.out
           have hms64_2 := NB311_312.out
           have hms64_3 := NB311_313.out
           have hms64_4 := NB311_314.out
           have hs65 : w61.cell? ⟨gb311, 1, none⟩ = some (.int .i64 0) := (blk_cell BK311.out 1).trans rfl
           have hfs65 := blk_frozen BK311.out 1
           have hns65_0 := NB310_311.out
           have hns65_2 := NB312_311.out
           have hns65_3 := NB313_311.out
           have hns65_4 := NB314_311.out
           have hms65_0 := NB311_310.out
           have hms65_2 := NB311_312.out
           have hms65_3 := NB311_313.out
           have hms65_4 := NB311_314.out
           refine skip_ (w1 := ?_) (by rfl) rfl ?_ ?_
           rotate_left
           ·go_simp
            rfl
           refine hK.out _ _ ⟨((cell_far (p := ⟨gb311, _, none⟩) NB313_311.out _).trans (((cell_far (p := ⟨gb311, _, none⟩) NB313_311.out _).trans (hHeld.1)))), ((cell_far (p := ⟨gb311, _, none⟩) NB313_311.out _).trans (((cell_far (p := ⟨gb311, _, none⟩) NB313_311.out _).trans (hHeld.2))))⟩ (fun hHeld => ?_)
           clear hK K
           refine one_ (i := 5) (N := none) #[true, true, true, true, true, true] rfl rfl (by kernel_rfl) (by decide) (fun K hK => ?_)
           have hs66 : w61.cell? ⟨gb312, 0, none⟩ = some (.int .i64 0) := (blk_cell BK312.out 0).trans rfl
           have hfs66 := blk_frozen BK312.out 0
           have hns66_0 := NB310_312.out
           have hns66_1 := NB311_312.out
           have hns66_3 := NB313_312.out
           have hns66_4 := NB314_312.out
           have hms66_0 := NB312_310.out
           have hms66_1 := NB312_311.out
           have hms66_3 := NB312_313.out
           have hms66_4 := NB312_314.out
           have hs67 : w61.cell? ⟨gb312, 1, none⟩ = some (.int .i64 0) := (blk_cell BK312.out 1).trans rfl
           have hfs67 := blk_frozen BK312.out 1
           have hns67_0 := NB310_312.out
           have hns67_1 := NB311_312.out
           have hns67_3 := NB313_312.out
           have hns67_4 := NB314_312.out
           have hms67_0 := NB312_310.out
           have hms67_1 := NB312_311.out
           have hms67_3 := NB312_313.out
           have hms67_4 := NB312_314.out
           refine skip_ (w1 := ?_) (by rfl) rfl ?_ ?_
           rotate_left
           ·go_simp
            rfl
           refine hK.out _ _ ⟨((cell_far (p := ⟨gb312, _, none⟩) NB313_312.out _).trans (((cell_far (p := ⟨gb312, _, none⟩) NB313_312.out _).trans (hHeld.1)))), ((cell_far (p := ⟨gb312, _, none⟩) NB313_312.out _).trans (((cell_far (p := ⟨gb312, _, none⟩) NB313_312.out _).trans (hHeld.2))))⟩ (fun hHeld => ?_)
           clear hK K
           refine done_ (by kernel_rfl) ?_
           try go_wp2
           refine bodyPost_ret (results_list (rs := [.cell 2 75, .cell 3 75, .cell 4 75]) rfl (by simp) (.cell gb310 75 #[.int .i64 0, .int .i64 0] (0, 0) _ rfl (by (with_reducible repeat (first | refine blk_drewN ?_ _ | refine blk_drew ?_ | refine blk_alloc ?_ _)); refine blk_far ?_ NB310_312.out _; (with_reducible repeat (first | refine blk_drewN ?_ _ | refine blk_drew ?_ | refine blk_alloc ?_ _)); refine blk_far ?_ NB310_312.out _; (with_reducible repeat (first | refine blk_drewN ?_ _ | refine blk_drew ?_ | refine blk_alloc ?_ _)); refine blk_far ?_ NB310_311.out _; (with_reducible repeat (first | refine blk_drewN ?_ _ | refine blk_drew ?_ | refine blk_alloc ?_ _)); refine blk_far ?_ NB310_311.out _; (with_reducible repeat (first | refine blk_drewN ?_ _ | refine blk_drew ?_ | refine blk_alloc ?_ _)); refine blk_put (cs := #[.int .i64 0, .int .i64 0]) ?_ 1 _ rfl; (with_reducible repeat (first | refine blk_drewN ?_ _ | refine blk_drew ?_ | refine blk_alloc ?_ _)); refine blk_put (cs := #[.int .i64 0, .int .i64 0]) ?_ 0 _ rfl; (with_reducible repeat (first | refine blk_drewN ?_ _ | refine blk_drew ?_ | refine blk_alloc ?_ _)); exact BK310.out) Try.underlying75 rfl (by kernel_rfl) (.cell gb311 75 #[.int .i64 1, .int .i64 123] (0, 0) _ rfl (by (with_reducible repeat (first | refine blk_drewN ?_ _ | refine blk_drew ?_ | refine blk_alloc ?_ _)); refine blk_far ?_ NB311_312.out _; (with_reducible repeat (first | refine blk_drewN ?_ _ | refine blk_drew ?_ | refine blk_alloc ?_ _)); refine blk_far ?_ NB311_312.out _; (with_reducible repeat (first | refine blk_drewN ?_ _ | refine blk_drew ?_ | refine blk_alloc ?_ _)); refine blk_put (cs := #[.int .i64 1, .int .i64 0]) ?_ 1 _ rfl; (with_reducible repeat (first | refine blk_drewN ?_ _ | refine blk_drew ?_ | refine blk_alloc ?_ _)); refine blk_put (cs := #[.int .i64 0, .int .i64 0]) ?_ 0 _ rfl; (with_reducible repeat (first | refine blk_drewN ?_ _ | refine blk_drew ?_ | refine blk_alloc ?_ _)); refine blk_far ?_ NB311_310.out _; (with_reducible repeat (first | refine blk_drewN ?_ _ | refine blk_drew ?_ | refine blk_alloc ?_ _)); refine blk_far ?_ NB311_310.out _; (with_reducible repeat (first | refine blk_drewN ?_ _ | refine blk_drew ?_ | refine blk_alloc ?_ _)); exact BK311.out) Try.underlying75 rfl (by kernel_rfl) (.cell gb312 75 #[.int .i64 0, .int .i64 0] (0, 0) _ rfl (by (with_reducible repeat (first | refine blk_drewN ?_ _ | refine blk_drew ?_ | refine blk_alloc ?_ _)); refine blk_put (cs := #[.int .i64 0, .int .i64 0]) ?_ 1 _ rfl; (with_reducible repeat (first | refine blk_drewN ?_ _ | refine blk_drew ?_ | refine blk_alloc ?_ _)); refine blk_put (cs := #[.int .i64 0, .int .i64 0]) ?_ 0 _ rfl; (with_reducible repeat (first | refine blk_drewN ?_ _ | refine blk_drew ?_ | refine blk_alloc ?_ _)); refine blk_far ?_ NB312_311.out _; (with_reducible repeat (first | refine blk_drewN ?_ _ | refine blk_drew ?_ | refine blk_alloc ?_ _)); refine blk_far ?_ NB312_311.out _; (with_reducible repeat (first | refine blk_drewN ?_ _ | refine blk_drew ?_ | refine blk_alloc ?_ _)); refine blk_far ?_ NB312_310.out _; (with_reducible repeat (first | refine blk_drewN ?_ _ | refine blk_drew ?_ | refine blk_alloc ?_ _)); refine blk_far ?_ NB312_310.out _; (with_reducible repeat (first | refine blk_drewN ?_ _ | refine blk_drew ?_ | refine blk_alloc ?_ _)); exact BK312.out) Try.underlying75 rfl (by kernel_rfl) .nil)))) rfl ?_
           exact ⟨by first | rfl | (simp [errW_none, errW_some] <;> rfl) | (simp [*, errW_none, errW_some] <;> rfl), bS HB.out⟩
          ·rw [if_neg c60] at H
           have c60b0 : (a0 == 16) = false := beq_eq_false_iff_ne.mpr c60
           have c60b1 : (a0 != 16) = true := bne_iff_ne.mpr c60
           by_cases c68 : a0 = 22
           rotate_left
           ·rw [if_neg c68] at H
            have c68b0 : (a0 == 22) = false := beq_eq_false_iff_ne.mpr c68
            have c68b1 : (a0 != 22) = true := bne_iff_ne.mpr c68
            simp only [Option.some.injEq, Prod.mk.injEq] at H
            obtain ⟨rfl, rfl, rfl, rfl, rfl, rfl⟩ := H
            try go_wp2
            have n0_ := aM (blk_drew BK310.out)
            have n1_ := aM (blk_drew BK311.out)
            have n2_ := aM (blk_drew BK312.out)
            have n3_ := aM (blk_drew BK313.out)
            have n4_ := aM (blk_drew BK314.out)
            have n5_ := aM (below_drew1 HB.out)
            clear BK310
            clear BK311
            clear BK312
            clear BK313
            clear BK314
            clear HB
            have BK310 := n0_
            have BK311 := n1_
            have BK312 := n2_
            have BK313 := n3_
            have BK314 := n4_
            have HB := n5_
            clear n0_ n1_ n2_ n3_ n4_ n5_
            refine start_ (n := 6) (S := fun w' => w'.cell? ⟨gb313, 0, none⟩ = some (.int .i64 0) ∧ w'.cell? ⟨gb313, 1, none⟩ = some (.int .i64 0)) (ds := []) #[false, false, false, false, false, false] (by kernel_rfl) rfl rfl ⟨(blk_cell BK313.out 0).trans rfl, (blk_cell BK313.out 1).trans rfl⟩ (fun hHeld => ?_)
            generalize wc.drew = w76 at BK310 BK311 BK312 BK313 BK314 HB hHeld ⊢
            refine pure_ (i := 0) (N := some 47) (v := ?_) (a' := ?_) #[true, false, false, false, false, false] rfl rfl (by kernel_rfl) (fun _ _ _ h => h) (Or.inl ⟨by rfl, ?_⟩) ?_ ?_
            rotate_left
            ·intro w'
             go_simp
             with_reducible rfl
            rotate_left
            ·simp only [Act.put, List.setIfInBounds_toArray, List.set_cons_zero, List.set_cons_succ, i64_w, i32_w]
             rfl
            refine pure_ (i := 1) (N := some 48) (v := ?_) (a' := ?_) #[true, true, false, false, false, false] rfl rfl (by kernel_rfl) (fun _ _ _ h => h) (Or.inl ⟨by rfl, ?_⟩) ?_ ?_
            rotate_left
            ·intro w'
             go_simp
             with_reducible rfl
            rotate_left
            ·simp only [Act.put, List.setIfInBounds_toArray, List.set_cons_zero, List.set_cons_succ, i64_w, i32_w]
             rfl
            refine take_ (i := 2) (N := some 49) (v := ?_) (a' := ?_) #[true, true, true, false, false, false] rfl rfl (by kernel_rfl) (fun _ _ _ h => h) (Or.inl ⟨by rfl, ?_⟩) hHeld ?_ ?_
            rotate_left
            ·rintro w' ⟨s0, s1⟩
             go_simp
             with_reducible rfl
            rotate_left
            ·simp only [Act.put, List.setIfInBounds_toArray, List.set_cons_zero, List.set_cons_succ, i64_w, i32_w]
             rfl
            refine one_ (i := 3) (N := none) #[true, true, true, true, false, false] rfl rfl (by kernel_rfl) (by decide) (fun K hK => ?_)
            have hs77 : w76.cell? ⟨gb310, 0, none⟩ = some (.int .i64 0) := (blk_cell BK310.out 0).trans rfl
            have hfs77 := blk_frozen BK310.out 0
            have hns77_1 := NB311_310.out
            have hns77_2 := NB312_310.out
            have hns77_3 := NB313_310.out
            have hns77_4 := NB314_310.out
            have hms77_1 := NB310_311.out
            have hms77_2 := NB310_312.out
            have hms77_3 := NB310_313.out
            have hms77_4 := NB310_314.out
            have hs78 : w76.cell? ⟨gb310, 1, none⟩ = some (.int .i64 0) := (blk_cell BK310.out 1).trans rfl
            have hfs78 := blk_frozen BK310.out 1
            have hns78_1 := NB311_310.out
            have hns78_2 := NB312_310.out
            have hns78_3 := NB313_310.out
            have hns78_4 := NB314_310.out
            have hms78_1 := NB310_311.out
            have hms78_2 := NB310_312.out
            have hms78_3 := NB310_313.out
            have hms78_4 := NB310_314.out
            refine skip_ (w1 := ?_) (by rfl) rfl ?_ ?_
            rotate_left
            ·go_simp
             rfl
            refine hK.out _ _ ⟨((cell_far (p := ⟨gb310, _, none⟩) NB313_310.out _).trans (((cell_far (p := ⟨gb310, _, none⟩) NB313_310.out _).trans (hHeld.1)))), ((cell_far (p := ⟨gb310, _, none⟩) NB313_310.out _).trans (((cell_far (p := ⟨gb310, _, none⟩) NB313_310.out _).trans (hHeld.2))))⟩ (fun hHeld => ?_)
            clear hK K
            refine one_ (i := 4) (N := none) #[true, true, true, true, true, false] rfl rfl (by kernel_rfl) (by decide) (fun K hK => ?_)
            have hs79 : w76.cell? ⟨gb311, 0, none⟩ = some (.int .i64 0) := (blk_cell BK311.out 0).trans rfl
            have hfs79 := blk_frozen BK311.out 0
            have hns79_0 := NB310_311.out
            have hns79_2 := NB312_311.out
            have hns79_3 := NB313_311.out
            have hns79_4 := NB314_311.out
            have hms79_0 := NB311_310.out
            have hms79_2 := NB311_312.out
            have hms79_3 := NB311_313.out
            have hms79_4 := NB311_314.out
            have hs80 : w76.cell? ⟨gb311, 1, none⟩ = some (.int .i64 0) := (blk_cell BK311.out 1).trans rfl
            have hfs80 := blk_frozen BK311.out 1
            have hns80_0 := NB310_311.out
            have hns80_2 := NB312_311.out
            have hns80_3 := NB313_311.out
            have hns80_4 := NB314_311.out
            have hms80_0 := NB311_310.out
            have hms80_2 := NB311_312.out
            have hms80_3 := NB311_313.out
            have hms80_4 := NB311_314.out
            refine skip_ (w1 := ?_) (by rfl) rfl ?_ ?_
            rotate_left
            ·go_simp
             rfl
            refine hK.out _ _ ⟨((cell_far (p := ⟨gb311, _, none⟩) NB313_311.out _).trans (((cell_far (p := ⟨gb311, _, none⟩) NB313_311.out _).trans (hHeld.1)))), ((cell_far (p := ⟨gb311, _, none⟩) NB313_311.out _).trans (((cell_far (p := ⟨gb311, _, none⟩) NB313_311.out _).trans (hHeld.2))))⟩ (fun hHeld => ?_)
            clear hK K
            refine one_ (i := 5) (N := none) #[true, true, true, true, true, true] rfl rfl (by kernel_rfl) (by decide) (fun K hK => ?_)
            have hs81 : w76.cell? ⟨gb312, 0, none⟩ = some (.int .i64 0) := (blk_cell BK312.out 0).trans rfl
            have hfs81 := blk_frozen BK312.out 0
            have hns81_0 := NB310_312.out
            have hns81_1 := NB311_312.out
            have hns81_3 := NB313_312.out
            have hns81_4 := NB314_312.out
            have hms81_0 := NB312_310.out
            have hms81_1 := NB312_311.out
            have hms81_3 := NB312_313.out
            have hms81_4 := NB312_314.out
            have hs82 : w76.cell? ⟨gb312, 1, none⟩ = some (.int .i64 0) := (blk_cell BK312.out 1).trans rfl
            have hfs82 := blk_frozen BK312.out 1
            have hns82_0 := NB310_312.out
            have hns82_1 := NB311_312.out
            have hns82_3 := NB313_312.out
            have hns82_4 := NB314_312.out
            have hms82_0 := NB312_310.out
            have hms82_1 := NB312_311.out
            have hms82_3 := NB312_313.out
            have hms82_4 := NB312_314.out
            refine skip_ (w1 := ?_) (by rfl) rfl ?_ ?_
            rotate_left
            ·go_simp
             rfl
            refine hK.out _ _ ⟨((cell_far (p := ⟨gb312, _, none⟩) NB313_312.out _).trans (((cell_far (p := ⟨gb312, _, none⟩) NB313_312.out _).trans (hHeld.1)))), ((cell_far (p := ⟨gb312, _, none⟩) NB313_312.out _).trans (((cell_far (p := ⟨gb312, _, none⟩) NB313_312.out _).trans (hHeld.2))))⟩ (fun hHeld => ?_)
            clear hK K
            refine done_ (by kernel_rfl) ?_
            try go_wp2
            refine bodyPost_ret (results_list (rs := [.cell 2 75, .cell 3 75, .cell 4 75]) rfl (by simp) (.cell gb310 75 #[.int .i64 1, .int .i64 125] (0, 0) _ rfl (by (with_reducible repeat (first | refine blk_drewN ?_ _ | refine blk_drew ?_ | refine blk_alloc ?_ _)); refine blk_far ?_ NB310_312.out _; (with_reducible repeat (first | refine blk_drewN ?_ _ | refine blk_drew ?_ | refine blk_alloc ?_ _)); refine blk_far ?_ NB310_312.out _; (with_reducible repeat (first | refine blk_drewN ?_ _ | refine blk_drew ?_ | refine blk_alloc ?_ _)); refine blk_far ?_ NB310_311.out _; (with_reducible repeat (first | refine blk_drewN ?_ _ | refine blk_drew ?_ | refine blk_alloc ?_ _)); refine blk_far ?_ NB310_311.out _; (with_reducible repeat (first | refine blk_drewN ?_ _ | refine blk_drew ?_ | refine blk_alloc ?_ _)); refine blk_put (cs := #[.int .i64 1, .int .i64 0]) ?_ 1 _ rfl; (with_reducible repeat (first | refine blk_drewN ?_ _ | refine blk_drew ?_ | refine blk_alloc ?_ _)); refine blk_put (cs := #[.int .i64 0, .int .i64 0]) ?_ 0 _ rfl; (with_reducible repeat (first | refine blk_drewN ?_ _ | refine blk_drew ?_ | refine blk_alloc ?_ _)); exact BK310.out) Try.underlying75 rfl (by kernel_rfl) (.cell gb311 75 #[.int .i64 1, .int .i64 121] (0, 0) _ rfl (by (with_reducible repeat (first | refine blk_drewN ?_ _ | refine blk_drew ?_ | refine blk_alloc ?_ _)); refine blk_far ?_ NB311_312.out _; (with_reducible repeat (first | refine blk_drewN ?_ _ | refine blk_drew ?_ | refine blk_alloc ?_ _)); refine blk_far ?_ NB311_312.out _; (with_reducible repeat (first | refine blk_drewN ?_ _ | refine blk_drew ?_ | refine blk_alloc ?_ _)); refine blk_put (cs := #[.int .i64 1, .int .i64 0]) ?_ 1 _ rfl; (with_reducible repeat (first | refine blk_drewN ?_ _ | refine blk_drew ?_ | refine blk_alloc ?_ _)); refine blk_put (cs := #[.int .i64 0, .int .i64 0]) ?_ 0 _ rfl; (with_reducible repeat (first | refine blk_drewN ?_ _ | refine blk_drew ?_ | refine blk_alloc ?_ _)); refine blk_far ?_ NB311_310.out _; (with_reducible repeat (first | refine blk_drewN ?_ _ | refine blk_drew ?_ | refine blk_alloc ?_ _)); refine blk_far ?_ NB311_310.out _; (with_reducible repeat (first | refine blk_drewN ?_ _ | refine blk_drew ?_ | refine blk_alloc ?_ _)); exact BK311.out) Try.underlying75 rfl (by kernel_rfl) (.cell gb312 75 #[.int .i64 0, .int .i64 0] (0, 0) _ rfl (by (with_reducible repeat (first | refine blk_drewN ?_ _ | refine blk_drew ?_ | refine blk_alloc ?_ _)); refine blk_put (cs := #[.int .i64 0, .int .i64 0]) ?_ 1 _ rfl; (with_reducible repeat (first | refine blk_drewN ?_ _ | refine blk_drew ?_ | refine blk_alloc ?_ _)); refine blk_put (cs := #[.int .i64 0, .int .i64 0]) ?_ 0 _ rfl; (with_reducible repeat (first | refine blk_drewN ?_ _ | refine blk_drew ?_ | refine blk_alloc ?_ _)); refine blk_far ?_ NB312_311.out _; (with_reducible repeat (first | refine blk_drewN ?_ _ | refine blk_drew ?_ | refine blk_alloc ?_ _)); refine blk_far ?_ NB312_311.out _; (with_reducible repeat (first | refine blk_drewN ?_ _ | refine blk_drew ?_ | refine blk_alloc ?_ _)); refine blk_far ?_ NB312_310.out _; (with_reducible repeat (first | refine blk_drewN ?_ _ | refine blk_drew ?_ | refine blk_alloc ?_ _)); refine blk_far ?_ NB312_310.out _; (with_reducible repeat (first | refine blk_drewN ?_ _ | refine blk_drew ?_ | refine blk_alloc ?_ _)); exact BK312.out) Try.underlying75 rfl (by kernel_rfl) .nil)))) rfl ?_
            exact ⟨by first | rfl | (simp [errW_none, errW_some] <;> rfl) | (simp [*, errW_none, errW_some] <;> rfl), bS HB.out⟩
           rw [if_pos c68] at H
           have c68b0 : (a0 == 22) = true := beq_iff_eq.mpr c68
           have c68b1 : (a0 != 22) = false := bne_eq_false_iff_eq.mpr c68
           clear c68
           simp only [Option.some.injEq, Prod.mk.injEq] at H
           obtain ⟨rfl, rfl, rfl, rfl, rfl, rfl⟩ := H
           try go_wp2
           have n0_ := aM (blk_drew BK310.out)
           have n1_ := aM (blk_drew BK311.out)
           have n2_ := aM (blk_drew BK312.out)
           have n3_ := aM (blk_drew BK313.out)
           have n4_ := aM (blk_drew BK314.out)
           have n5_ := aM (below_drew1 HB.out)
           clear BK310
           clear BK311
           clear BK312
           clear BK313
           clear BK314
           clear HB
           have BK310 := n0_
           have BK311 := n1_
           have BK312 := n2_
           have BK313 := n3_
           have BK314 := n4_
           have HB := n5_
           clear n0_ n1_ n2_ n3_ n4_ n5_
           refine start_ (n := 6) (S := fun w' => w'.cell? ⟨gb313, 0, none⟩ = some (.int .i64 0) ∧ w'.cell? ⟨gb313, 1, none⟩ = some (.int .i64 0)) (ds := []) #[false, false, false, false, false, false] (by kernel_rfl) rfl rfl ⟨(blk_cell BK313.out 0).trans rfl, (blk_cell BK313.out 1).trans rfl⟩ (fun hHeld => ?_)
           generalize wc.drew = w69 at BK310 BK311 BK312 BK313 BK314 HB hHeld ⊢
           refine pure_ (i := 1) (N := some 45) (v := ?_) (a' := ?_) #[false, true, false, false, false, false] rfl rfl (by kernel_rfl) (fun _ _ _ h => h) (Or.inl ⟨by rfl, ?_⟩) ?_ ?_
           rotate_left
           ·intro w'
            go_simp
            with_reducible rfl
           rotate_left
           ·simp only [Act.put, List.setIfInBounds_toArray, List.set_cons_zero, List.set_cons_succ, i64_w, i32_w]
            rfl
           refine take_ (i := 0) (N := some 44) (v := ?_) (a' := ?_) #[true, true, false, false, false, false] rfl rfl (by kernel_rfl) (fun _ _ _ h => h) (Or.inl ⟨by rfl, ?_⟩) hHeld ?_ ?_
           rotate_left
           ·rintro w' ⟨s0, s1⟩
            go_simp
            with_reducible rfl
           rotate_left
           ·simp only [Act.put, List.setIfInBounds_toArray, List.set_cons_zero, List.set_cons_succ, i64_w, i32_w]
            rfl
           refine take_ (i := 2) (N := some 46) (v := ?_) (a' := ?_) #[true, true, true, false, false, false] rfl rfl (by kernel_rfl) (fun _ _ _ h => h) (Or.inl ⟨by rfl, ?_⟩) hHeld ?_ ?_
           rotate_left
           ·rintro w' ⟨s0, s1⟩
            go_simp
            with_reducible rfl
           rotate_left
           ·simp only [Act.put, List.setIfInBounds_toArray, List.set_cons_zero, List.set_cons_succ, i64_w, i32_w]
            rfl
           refine one_ (i := 3) (N := none) #[true, true, true, true, false, false] rfl rfl (by kernel_rfl) (by decide) (fun K hK => ?_)
           have hs70 : w69.cell? ⟨gb310, 0, none⟩ = some (.int .i64 0) := (blk_cell BK310.out 0).trans rfl
           have hfs70 := blk_frozen BK310.out 0
           have hns70_1 := NB311_310.out
           have hns70_2 := NB312_310.out
           have hns70_3 := NB313_310.out
           have hns70_4 := NB314_310.out
           have hms70_1 := NB310_311.out
           have hms70_2 := NB310_312.out
           have hms70_3 := NB310_313.out
           have hms70_4 := NB310_314.out
           have hs71 : w69.cell? ⟨gb310, 1, none⟩ = some (.int .i64 0) := (blk_cell BK310.out 1).trans rfl
           have hfs71 := blk_frozen BK310.out 1
           have hns71_1 := NB311_310.out
           have hns71_2 := NB312_310.out
           have hns71_3 := NB313_310.out
           have hns71_4 := NB314_310.out
           have hms71_1 := NB310_311.out
           have hms71_2 := NB310_312.out
           have hms71_3 := NB310_313.out
           have hms71_4 := NB310_314.out
           refine skip_ (w1 := ?_) (by rfl) rfl ?_ ?_
           rotate_left
           ·go_simp
            rfl
           refine hK.out _ _ ⟨((cell_far (p := ⟨gb310, _, none⟩) NB313_310.out _).trans (((cell_far (p := ⟨gb310, _, none⟩) NB313_310.out _).trans (hHeld.1)))), ((cell_far (p := ⟨gb310, _, none⟩) NB313_310.out _).trans (((cell_far (p := ⟨gb310, _, none⟩) NB313_310.out _).trans (hHeld.2))))⟩ (fun hHeld => ?_)
           clear hK K
           refine one_ (i := 4) (N := none) #[true, true, true, true, true, false] rfl rfl (by kernel_rfl) (by decide) (fun K hK => ?_)
           have hs72 : w69.cell? ⟨gb311, 0, none⟩ = some (.int .i64 0) := (blk_cell BK311.out 0).trans rfl
           have hfs72 := blk_frozen BK311.out 0
           have hns72_0 := NB310_311.out
           have hns72_2 := NB312_311.out
           have hns72_3 := NB313_311.out
           have hns72_4 := NB314_311.out
           have hms72_0 := NB311_310.out
           have hms72_2 := NB311_312.out
           have hms72_3 := NB311_313.out
           have hms72_4 := NB311_314.out
           have hs73 : w69.cell? ⟨gb311, 1, none⟩ = some (.int .i64 0) := (blk_cell BK311.out 1).trans rfl
           have hfs73 := blk_frozen BK311.out 1
           have hns73_0 := NB310_311.out
           have hns73_2 := NB312_311.out
           have hns73_3 := NB313_311.out
           have hns73_4 := NB314_311.out
           have hms73_0 := NB311_310.out
           have hms73_2 := NB311_312.out
           have hms73_3 := NB311_313.out
           have hms73_4 := NB311_314.out
           refine skip_ (w1 := ?_) (by rfl) rfl ?_ ?_
           rotate_left
           ·go_simp
            rfl
           refine hK.out _ _ ⟨((cell_far (p := ⟨gb311, _, none⟩) NB313_311.out _).trans (((cell_far (p := ⟨gb311, _, none⟩) NB313_311.out _).trans (hHeld.1)))), ((cell_far (p := ⟨gb311, _, none⟩) NB313_311.out _).trans (((cell_far (p := ⟨gb311, _, none⟩) NB313_311.out _).trans (hHeld.2))))⟩ (fun hHeld => ?_)
           clear hK K
           refine one_ (i := 5) (N := none) #[true, true, true, true, true, true] rfl rfl (by kernel_rfl) (by decide) (fun K hK => ?_)
           have hs74 : w69.cell? ⟨gb312, 0, none⟩ = some (.int .i64 0) := (blk_cell BK312.out 0).trans rfl
           have hfs74 := blk_frozen BK312.out 0
           have hns74_0 := NB310_312.out
           have hns74_1 := NB311_312.out
           have hns74_3 := NB313_312.out
           have hns74_4 := NB314_312.out
           have hms74_0 := NB312_310.out
           have hms74_1 := NB312_311.out
           have hms74_3 := NB312_313.out
           have hms74_4 := NB312_314.out
           have hs75 : w69.cell? ⟨gb312, 1, none⟩ = some (.int .i64 0) := (blk_cell BK312.out 1).trans rfl
           have hfs75 := blk_frozen BK312.out 1
           have hns75_0 := NB310_312.out
           have hns75_1 := NB311_312.out
           have hns75_3 := NB313_312.out
           have hns75_4 := NB314_312.out
           have hms75_0 := NB312_310.out
           have hms75_1 := NB312_311.out
           have hms75_3 := NB312_313.out
           have hms75_4 := NB312_314.out
           refine skip_ (w1 := ?_) (by rfl) rfl ?_ ?_
           rotate_left
           ·go_simp
            rfl
           refine hK.out _ _ ⟨((cell_far (p := ⟨gb312, _, none⟩) NB313_312.out _).trans (((cell_far (p := ⟨gb312, _, none⟩) NB313_312.out _).trans (hHeld.1)))), ((cell_far (p := ⟨gb312, _, none⟩) NB313_312.out _).trans (((cell_far (p := ⟨gb312, _, none⟩) NB313_312.out _).trans (hHeld.2))))⟩ (fun hHeld => ?_)
           clear hK K
           refine done_ (by kernel_rfl) ?_
           try go_wp2
           refine bodyPost_ret (results_list (rs := [.cell 2 75, .cell 3 75, .cell 4 75]) rfl (by simp) (.cell gb310 75 #[.int .i64 0, .int .i64 0] (0, 0) _ rfl (by (with_reducible repeat (first | refine blk_drewN ?_ _ | refine blk_drew ?_ | refine blk_alloc ?_ _)); refine blk_far ?_ NB310_312.out _; (with_reducible repeat (first | refine blk_drewN ?_ _ | refine blk_drew ?_ | refine blk_alloc ?_ _)); refine blk_far ?_ NB310_312.out _; (with_reducible repeat (first | refine blk_drewN ?_ _ | refine blk_drew ?_ | refine blk_alloc ?_ _)); refine blk_far ?_ NB310_311.out _; (with_reducible repeat (first | refine blk_drewN ?_ _ | refine blk_drew ?_ | refine blk_alloc ?_ _)); refine blk_far ?_ NB310_311.out _; (with_reducible repeat (first | refine blk_drewN ?_ _ | refine blk_drew ?_ | refine blk_alloc ?_ _)); refine blk_put (cs := #[.int .i64 0, .int .i64 0]) ?_ 1 _ rfl; (with_reducible repeat (first | refine blk_drewN ?_ _ | refine blk_drew ?_ | refine blk_alloc ?_ _)); refine blk_put (cs := #[.int .i64 0, .int .i64 0]) ?_ 0 _ rfl; (with_reducible repeat (first | refine blk_drewN ?_ _ | refine blk_drew ?_ | refine blk_alloc ?_ _)); exact BK310.out) Try.underlying75 rfl (by kernel_rfl) (.cell gb311 75 #[.int .i64 2, .int .i64 2] (0, 0) _ rfl (by (with_reducible repeat (first | refine blk_drewN ?_ _ | refine blk_drew ?_ | refine blk_alloc ?_ _)); refine blk_far ?_ NB311_312.out _; (with_reducible repeat (first | refine blk_drewN ?_ _ | refine blk_drew ?_ | refine blk_alloc ?_ _)); refine blk_far ?_ NB311_312.out _; (with_reducible repeat (first | refine blk_drewN ?_ _ | refine blk_drew ?_ | refine blk_alloc ?_ _)); refine blk_put (cs := #[.int .i64 2, .int .i64 0]) ?_ 1 _ rfl; (with_reducible repeat (first | refine blk_drewN ?_ _ | refine blk_drew ?_ | refine blk_alloc ?_ _)); refine blk_put (cs := #[.int .i64 0, .int .i64 0]) ?_ 0 _ rfl; (with_reducible repeat (first | refine blk_drewN ?_ _ | refine blk_drew ?_ | refine blk_alloc ?_ _)); refine blk_far ?_ NB311_310.out _; (with_reducible repeat (first | refine blk_drewN ?_ _ | refine blk_drew ?_ | refine blk_alloc ?_ _)); refine blk_far ?_ NB311_310.out _; (with_reducible repeat (first | refine blk_drewN ?_ _ | refine blk_drew ?_ | refine blk_alloc ?_ _)); exact BK311.out) Try.underlying75 rfl (by kernel_rfl) (.cell gb312 75 #[.int .i64 0, .int .i64 0] (0, 0) _ rfl (by (with_reducible repeat (first | refine blk_drewN ?_ _ | refine blk_drew ?_ | refine blk_alloc ?_ _)); refine blk_put (cs := #[.int .i64 0, .int .i64 0]) ?_ 1 _ rfl; (with_reducible repeat (first | refine blk_drewN ?_ _ | refine blk_drew ?_ | refine blk_alloc ?_ _)); refine blk_put (cs := #[.int .i64 0, .int .i64 0]) ?_ 0 _ rfl; (with_reducible repeat (first | refine blk_drewN ?_ _ | refine blk_drew ?_ | refine blk_alloc ?_ _)); refine blk_far ?_ NB312_311.out _; (with_reducible repeat (first | refine blk_drewN ?_ _ | refine blk_drew ?_ | refine blk_alloc ?_ _)); refine blk_far ?_ NB312_311.out _; (with_reducible repeat (first | refine blk_drewN ?_ _ | refine blk_drew ?_ | refine blk_alloc ?_ _)); refine blk_far ?_ NB312_310.out _; (with_reducible repeat (first | refine blk_drewN ?_ _ | refine blk_drew ?_ | refine blk_alloc ?_ _)); refine blk_far ?_ NB312_310.out _; (with_reducible repeat (first | refine blk_drewN ?_ _ | refine blk_drew ?_ | refine blk_alloc ?_ _)); exact BK312.out) Try.underlying75 rfl (by kernel_rfl) .nil)))) rfl ?_
           exact ⟨by first | rfl | (simp [errW_none, errW_some] <;> rfl) | (simp [*, errW_none, errW_some] <;> rfl), bS HB.out⟩
/-! ### impl_written: function 32 -/
def impl_written.f (a0_0 : Int) (a0_1 : Int) (a0_2 : Int) (l0_3 : List Int) (l0_4 : List Bool) (a0_5 : Int) : Option (Int) := if a0_0 = 22 then (some 1) else (some (wrap64 ((l0_3.length : Int) + (l0_4.length : Int))))
set_option maxHeartbeats 8000000 in
set_option maxRecDepth 100000 in
theorem impl_written.calls (a0_0 : Int) (a0_1 : Int) (a0_2 : Int) (A0_3 : Option Addr) (c0_3 : Nat) (l0_3 : List Int) (A0_4 : Option Addr) (c0_4 : Nat) (l0_4 : List Bool) (a0_5 : Int) (r : Int) (w : World) (hr0_3 : Kd.C (Kd.int .i64) w A0_3 l0_3.length l0_3) (hc0_3 : l0_3.length ≤ c0_3) (hr0_4 : Kd.C Kd.bool w A0_4 l0_4.length l0_4) (hc0_4 : l0_4.length ≤ c0_4) (h : impl_written.f a0_0 a0_1 a0_2 l0_3 l0_4 a0_5 = some r) :
  Calls Try.prog 32 #[.agg #[.int .i64 a0_0, .int .i64 a0_1, .int .i64 a0_2, .slice A0_3 l0_3.length c0_3, .slice A0_4 l0_4.length c0_4, .int .i64 a0_5]] w fun e w' => e = .returned (.int .i64 r) ∧ Below w.heap.size w w' := by
 have hu29 := Try.underlying29
 have HR0_3 := aM hr0_3
 have HC0_3 := aM hc0_3
 clear hr0_3 hc0_3
 have HR0_4 := aM hr0_4
 have HC0_4 := aM hc0_4
 clear hr0_4 hc0_4
 have HB := aM (Below.refl w.heap.size w)
 have H : (if a0_0 = 22 then (some 1) else (some (wrap64 ((l0_3.length : Int) + (l0_4.length : Int))))) = some r := h
 clear h
 by_cases c2 : a0_0 = 22
 rotate_left
 ·rw [if_neg c2] at H
  have c2b0 : (a0_0 == 22) = false := beq_eq_false_iff_ne.mpr c2
  have c2b1 : (a0_0 != 22) = true := bne_iff_ne.mpr c2
  obtain rfl := Option.some.inj H
  go_enter Try.func32, Try.ntmps32
  go_wp2_with (first | ((with_reducible refine gate_dst (N := 1) rfl ?_); refine box_event ?hg (N := 1) ?hd (cs := #[.int .i64 a0_0, .int .i64 a0_1, .int .i64 a0_2, .slice A0_3 l0_3.length c0_3, .slice A0_4 l0_4.length c0_4, .int .i64 a0_5]) (t := 29) ?hr ?_; (case hd => rfl); (case hg => rfl); (case hr => first | (go_simp; done) | (go_simp; rfl)); intro gb308 hg w5 hbox hb; have _ := aM (below_step (bS HB.out) hb); have _ := aM (hbox); have _ := aM (leG hg (bS HB.out)); have _ := aM (leG hg (bS HB.out)); clear HB; rename_i HB BK308 GW308 GE308; clear hb hbox hg; obtain ⟨hcz6_0, hfz6_0, hcz6_1, hfz6_1, hcz6_2, hfz6_2, hcz6_3, hfz6_3, hcz6_4, hfz6_4, hcz6_5, hfz6_5⟩ := bk6 BK308.out))
  go_ret
  exact ⟨by first | rfl | (simp [errW_none, errW_some] <;> rfl) | (simp [*, errW_none, errW_some] <;> rfl), bS HB.out⟩
 rw [if_pos c2] at H
 have c2b0 : (a0_0 == 22) = true := beq_iff_eq.mpr c2
 have c2b1 : (a0_0 != 22) = false := bne_eq_false_iff_eq.mpr c2
 clear c2
 obtain rfl := Option.some.inj H
 go_enter Try.func32, Try.ntmps32
 go_wp2_with (first | ((with_reducible refine gate_dst (N := 1) rfl ?_); refine box_event ?hg (N := 1) ?hd (cs := #[.int .i64 a0_0, .int .i64 a0_1, .int .i64 a0_2, .slice A0_3 l0_3.length c0_3, .slice A0_4 l0_4.length c0_4, .int .i64 a0_5]) (t := 29) ?hr ?_; (case hd => rfl); (case hg => rfl); (case hr => first | (go_simp; done) | (go_simp; rfl)); intro gb308 hg w3 hbox hb; have _ := aM (below_step (bS HB.out) hb); have _ := aM (hbox); have _ := aM (leG hg (bS HB.out)); have _ := aM (leG hg (bS HB.out)); clear HB; rename_i HB BK308 GW308 GE308; clear hb hbox hg; obtain ⟨hcz4_0, hfz4_0, hcz4_1, hfz4_1, hcz4_2, hfz4_2, hcz4_3, hfz4_3, hcz4_4, hfz4_4, hcz4_5, hfz4_5⟩ := bk6 BK308.out))
 go_ret
 exact ⟨by first | rfl | (simp [errW_none, errW_some] <;> rfl) | (simp [*, errW_none, errW_some] <;> rfl), bS HB.out⟩
/-! ### impl_ReqOk: function 25 -/
mutual
def impl_ReqOk.j0 : Nat → Bool → Int → Int → Int → List Int → List Bool → Int → Option (Bool)
 | 0, _, _, _, _, _, _, _ => none
 | k + 1, x48, x317000, x317001, x317002, x317003, x317004, x317005 => if x48 = true then (some false) else ((impl_isWord.f x317001).bind fun t330 => (if t330 = true then ((impl_isWord.f x317005).bind fun t331 => (if t331 = true then ((impl_allWords.f x317003).bind fun t332 => (if t332 = true then (impl_ReqOk.j1 k (decide ((wrap64 (x317001 + x317002)) > 65536)) x317000 x317001 x317002 x317003 x317004 x317005) else (impl_ReqOk.j1 k true x317000 x317001 x317002 x317003 x317004 x317005))) else (impl_ReqOk.j1 k true x317000 x317001 x317002 x317003 x317004 x317005))) else (impl_ReqOk.j1 k true x317000 x317001 x317002 x317003 x317004 x317005)))
def impl_ReqOk.j1 : Nat → Bool → Int → Int → Int → List Int → List Bool → Int → Option (Bool)
 | 0, _, _, _, _, _, _, _ => none
 | k + 1, x72, x317000, x317001, x317002, x317003, x317004, x317005 => if x72 = true then (some false) else (if x317000 = 23 then ((impl_written.f x317000 x317001 x317002 x317003 x317004 x317005).bind fun t333 => (some (decide ((wrap64 (x317005 + t333)) ≤ 65536)))) else (if x317005 = 0 then ((impl_written.f x317000 x317001 x317002 x317003 x317004 x317005).bind fun t334 => (some (decide ((wrap64 (x317001 + t334)) ≤ 65536)))) else (some false)))
end
def impl_ReqOk.f (k : Nat) (a0_0 : Int) (a0_1 : Int) (a0_2 : Int) (l0_3 : List Int) (l0_4 : List Bool) (a0_5 : Int) : Option (Bool) := (impl_counts.f k a0_0).bind fun bt317 => ((impl_isKind.f a0_0).bind fun t326 => (if t326 = true then ((impl_in.f a0_2 bt317.1 bt317.2.1).bind fun t327 => (if t327 = true then ((impl_in.f (l0_3.length : Int) bt317.2.2.1 bt317.2.2.2.1).bind fun t328 => (if t328 = true then ((impl_in.f (l0_4.length : Int) bt317.2.2.2.2.1 bt317.2.2.2.2.2).bind fun t329 => (impl_ReqOk.j0 k (!t329) a0_0 a0_1 a0_2 l0_3 l0_4 a0_5)) else (impl_ReqOk.j0 k true a0_0 a0_1 a0_2 l0_3 l0_4 a0_5))) else (impl_ReqOk.j0 k true a0_0 a0_1 a0_2 l0_3 l0_4 a0_5))) else (impl_ReqOk.j0 k true a0_0 a0_1 a0_2 l0_3 l0_4 a0_5)))
theorem impl_ReqOk.mono_l : ∀ k, (∀ y0 y1 y2 y3 y4 y5 y6, LeO (impl_ReqOk.j0 k y0 y1 y2 y3 y4 y5 y6) (impl_ReqOk.j0 (k + 1) y0 y1 y2 y3 y4 y5 y6)) ∧ (∀ y0 y1 y2 y3 y4 y5 y6, LeO (impl_ReqOk.j1 k y0 y1 y2 y3 y4 y5 y6) (impl_ReqOk.j1 (k + 1) y0 y1 y2 y3 y4 y5 y6))
 | 0 => ⟨fun _ _ _ _ _ _ _ r h => by simp [impl_ReqOk.j0] at h, fun _ _ _ _ _ _ _ r h => by simp [impl_ReqOk.j1] at h⟩
 | k + 1 => by
  obtain ⟨ih0, ih1⟩ := impl_ReqOk.mono_l k
  refine ⟨?_, ?_⟩
  ·intro y0 y1 y2 y3 y4 y5 y6
   unfold impl_ReqOk.j0
   repeat' first
   | (with_reducible exact ih0 _ _ _ _ _ _ _)
   | (with_reducible exact ih1 _ _ _ _ _ _ _)
   | (with_reducible exact impl_counts.mono _ _)
   | (with_reducible exact LeO.refl _)
   | (with_reducible exact LeO.none _)
   | (with_reducible refine LeO.ite ?_ ?_)
   | (with_reducible refine LeO.bind ?_ (fun _ => ?_))
   | exact ih0 _ _ _ _ _ _ _
   | exact ih1 _ _ _ _ _ _ _
   | exact impl_counts.mono _ _
   | exact LeO.none _
   | refine LeO.ite ?_ ?_
   | refine LeO.bind ?_ (fun _ => ?_)
  ·intro y0 y1 y2 y3 y4 y5 y6
   unfold impl_ReqOk.j1
   repeat' first
   | (with_reducible exact ih0 _ _ _ _ _ _ _)
   | (with_reducible exact ih1 _ _ _ _ _ _ _)
   | (with_reducible exact impl_counts.mono _ _)
   | (with_reducible exact LeO.refl _)
   | (with_reducible exact LeO.none _)
   | (with_reducible refine LeO.ite ?_ ?_)
   | (with_reducible refine LeO.bind ?_ (fun _ => ?_))
   | exact ih0 _ _ _ _ _ _ _
   | exact ih1 _ _ _ _ _ _ _
   | exact impl_counts.mono _ _
   | exact LeO.none _
   | refine LeO.ite ?_ ?_
   | refine LeO.bind ?_ (fun _ => ?_)
theorem impl_ReqOk.mono : ∀ a0 a1 a2 a3 a4 a5 k, LeO (impl_ReqOk.f k a0 a1 a2 a3 a4 a5) (impl_ReqOk.f (k + 1) a0 a1 a2 a3 a4 a5) := by
 intro a0 a1 a2 a3 a4 a5 k
 obtain ⟨ih0, ih1⟩ := impl_ReqOk.mono_l k
 unfold impl_ReqOk.f
 repeat' first
   | (with_reducible exact ih0 _ _ _ _ _ _ _)
   | (with_reducible exact ih1 _ _ _ _ _ _ _)
   | (with_reducible exact impl_counts.mono _ _)
   | (with_reducible exact LeO.refl _)
   | (with_reducible exact LeO.none _)
   | (with_reducible refine LeO.ite ?_ ?_)
   | (with_reducible refine LeO.bind ?_ (fun _ => ?_))
   | exact ih0 _ _ _ _ _ _ _
   | exact ih1 _ _ _ _ _ _ _
   | exact impl_counts.mono _ _
   | exact LeO.none _
   | refine LeO.ite ?_ ?_
   | refine LeO.bind ?_ (fun _ => ?_)
def impl_ReqOk.T8 : Bool × List (List Nat × List Nat) := (true, [([], []), ([0], [0]), ([1], [1]), ([2], [2]), ([3], [3]), ([4, 3], [3, 4]), ([3], [3]), ([6, 3, 3], [3, 6]), ([5, 7, 3], [3, 5, 7]), ([8, 3], [3, 8]), ([3, 9], [3, 9]), ([10, 7, 0, 1, 2, 3, 4, 5, 6, 7, 8, 9, 10], [10])])
def impl_ReqOk.B8 : List Nat := [0, 1, 3, 7, 15, 31, 15, 79, 255, 511, 1023, 2047]
theorem impl_ReqOk.tab8 : rtab .any (opsOf Try.f25 8) = impl_ReqOk.T8 := by kernel_rfl
theorem impl_ReqOk.bits8 : waitsOk impl_ReqOk.T8.2 impl_ReqOk.B8 = true := by kernel_rfl
set_option maxHeartbeats 8000000 in
set_option maxRecDepth 100000 in
theorem impl_ReqOk.calls (k : Nat) (a0_0 : Int) (a0_1 : Int) (a0_2 : Int) (A0_3 : Option Addr) (c0_3 : Nat) (l0_3 : List Int) (A0_4 : Option Addr) (c0_4 : Nat) (l0_4 : List Bool) (a0_5 : Int) (r : Bool) (w : World) (hr0_3 : Kd.C (Kd.int .i64) w A0_3 l0_3.length l0_3) (hc0_3 : l0_3.length ≤ c0_3) (hr0_4 : Kd.C Kd.bool w A0_4 l0_4.length l0_4) (hc0_4 : l0_4.length ≤ c0_4) (h : impl_ReqOk.f k a0_0 a0_1 a0_2 l0_3 l0_4 a0_5 = some r) :
  Calls Try.prog 25 #[.agg #[.int .i64 a0_0, .int .i64 a0_1, .int .i64 a0_2, .slice A0_3 l0_3.length c0_3, .slice A0_4 l0_4.length c0_4, .int .i64 a0_5]] w fun e w' => e = .returned (.bool r) ∧ Below w.heap.size w w' := by
 have hu29 := Try.underlying29
 have hu75 := Try.underlying75
 have HR0_3 := aM hr0_3
 have HC0_3 := aM hc0_3
 clear hr0_3 hc0_3
 have HR0_4 := aM hr0_4
 have HC0_4 := aM hc0_4
 clear hr0_4 hc0_4
 have HB := aM (Below.refl w.heap.size w)
 have H : ((impl_counts.f k a0_0).bind fun bt317 => ((impl_isKind.f a0_0).bind fun t326 => (if t326 = true then ((impl_in.f a0_2 bt317.1 bt317.2.1).bind fun t327 => (if t327 = true then ((impl_in.f (l0_3.length : Int) bt317.2.2.1 bt317.2.2.2.1).bind fun t328 => (if t328 = true then ((impl_in.f (l0_4.length : Int) bt317.2.2.2.2.1 bt317.2.2.2.2.2).bind fun t329 => (impl_ReqOk.j0 k (!t329) a0_0 a0_1 a0_2 l0_3 l0_4 a0_5)) else (impl_ReqOk.j0 k true a0_0 a0_1 a0_2 l0_3 l0_4 a0_5))) else (impl_ReqOk.j0 k true a0_0 a0_1 a0_2 l0_3 l0_4 a0_5))) else (impl_ReqOk.j0 k true a0_0 a0_1 a0_2 l0_3 l0_4 a0_5)))) = some r := h
 clear h
 replace H := Option.bind_eq_some_iff.mp H
 obtain ⟨⟨t317, t318, t319, t320, t321, t322⟩, A20, H⟩ := H
 (try dsimp only at H)
 have A2 := aM A20
 clear A20
 have HC3 := aM H
 clear H
 go_enter Try.func25, Try.ntmps25
 go_upto_region 2 with (first | ((with_reducible refine gate_dst (N := 1) rfl ?_); (try (refine gate_guard (by rfl) ?_; dsimp only)); refine box_event ?hg (N := 1) ?hd (cs := #[.int .i64 a0_0, .int .i64 a0_1, .int .i64 a0_2, .slice A0_3 l0_3.length c0_3, .slice A0_4 l0_4.length c0_4, .int .i64 a0_5]) (t := 29) ?hr ?_; (case hd => rfl); (case hg => rfl); (case hr => first | (go_simp; done) | (go_simp; rfl)); intro gb316 hg w4 hbox hb; have _ := aM (below_step (bS HB.out) hb); have _ := aM (hbox); have _ := aM (leG hg (bS HB.out)); have _ := aM (leG hg (bS HB.out)); clear HB; rename_i HB BK316 GW316 GE316; clear hb hbox hg; obtain ⟨hcz5_0, hfz5_0, hcz5_1, hfz5_1, hcz5_2, hfz5_2, hcz5_3, hfz5_3, hcz5_4, hfz5_4, hcz5_5, hfz5_5⟩ := bk6 BK316.out) | ((with_reducible refine gate_callee (f := 60) rfl ?_); refine gL (some 9) rfl rfl Try.func60 (by kernel_rfl) rfl #[.int .i64 a0_0] rfl ?_; (with_reducible refine (impl_counts.calls k a0_0 t317 t318 t319 t320 t321 t322 _ A2.out).mono ?_); rintro e w6 ⟨rfl, hb⟩; refine ⟨_, rfl, ?_⟩; have _ := aM (kB BK316.out hb); have _ := aM (below_step (bS HB.out) hb); clear BK316 HB; rename_i BK316 HB; (try clear hb)) | ((with_reducible refine gate_dst (N := 3) rfl ?_); (try (refine gate_guard (by rfl) ?_; dsimp only)); refine box_event ?hg (N := 3) ?hd (cs := #[.int .i64 0, .int .i64 0]) (t := 75) ?hr ?_; (case hd => rfl); (case hg => rfl); (case hr => first | (go_simp; done) | (go_simp; rfl)); intro gb323 hg w7 hbox hb; have _ := aM (kB BK316.out hb); have _ := aM (below_step (bS HB.out) hb); have _ := aM (hbox); have _ := aM (leG hg (bS HB.out)); have _ := aM (leG hg (bS HB.out)); have _ := aM (neL hg (kA BK316.out)); have _ := aM (neG hg (kA BK316.out)); clear BK316 HB; rename_i BK316 HB BK323 GW323 GE323 NB316_323 NB323_316; clear hb hbox hg) | ((with_reducible refine gate_dst (N := 4) rfl ?_); (try (refine gate_guard (by rfl) ?_; dsimp only)); refine box_event ?hg (N := 4) ?hd (cs := #[.int .i64 0, .int .i64 0]) (t := 75) ?hr ?_; (case hd => rfl); (case hg => rfl); (case hr => first | (go_simp; done) | (go_simp; rfl)); intro gb324 hg w8 hbox hb; have _ := aM (kB BK316.out hb); have _ := aM (kB BK323.out hb); have _ := aM (below_step (bS HB.out) hb); have _ := aM (hbox); have _ := aM (leG hg (bS HB.out)); have _ := aM (leG hg (bS HB.out)); have _ := aM (neL hg (kA BK316.out)); have _ := aM (neG hg (kA BK316.out)); have _ := aM (neL hg (kA BK323.out)); have _ := aM (neG hg (kA BK323.out)); clear BK316 BK323 HB; rename_i BK316 BK323 HB BK324 GW324 GE324 NB316_324 NB324_316 NB323_324 NB324_323; clear hb hbox hg) | ((with_reducible refine gate_dst (N := 5) rfl ?_); (try (refine gate_guard (by rfl) ?_; dsimp only)); refine box_event ?hg (N := 5) ?hd (cs := #[.int .i64 0, .int .i64 0]) (t := 75) ?hr ?_; (case hd => rfl); (case hg => rfl); (case hr => first | (go_simp; done) | (go_simp; rfl)); intro gb325 hg w9 hbox hb; have _ := aM (kB BK316.out hb); have _ := aM (kB BK323.out hb); have _ := aM (kB BK324.out hb); have _ := aM (below_step (bS HB.out) hb); have _ := aM (hbox); have _ := aM (leG hg (bS HB.out)); have _ := aM (leG hg (bS HB.out)); have _ := aM (neL hg (kA BK316.out)); have _ := aM (neG hg (kA BK316.out)); have _ := aM (neL hg (kA BK323.out)); have _ := aM (neG hg (kA BK323.out)); have _ := aM (neL hg (kA BK324.out)); have _ := aM (neG hg (kA BK324.out)); clear BK316 BK323 BK324 HB; rename_i BK316 BK323 BK324 HB BK325 GW325 GE325 NB316_325 NB325_316 NB323_325 NB325_323 NB324_325 NB325_324; clear hb hbox hg; have hnb10 := NB323_316.out; have hnc10 := NB316_323.out; have hnb11 := NB323_324.out; have hnc11 := NB324_323.out; have hnb12 := NB323_325.out; have hnc12 := NB325_323.out; obtain ⟨hcz13_0, hfz13_0, hcz13_1, hfz13_1⟩ := bk2 BK323.out; have hnb14 := NB324_316.out; have hnc14 := NB316_324.out; have hnb15 := NB324_325.out; have hnc15 := NB325_324.out; obtain ⟨hcz16_0, hfz16_0, hcz16_1, hfz16_1⟩ := bk2 BK324.out; have hnb17 := NB325_316.out; have hnc17 := NB316_325.out; obtain ⟨hcz18_0, hfz18_0, hcz18_1, hfz18_1⟩ := bk2 BK325.out))
 (try simp only [Act.put, List.setIfInBounds_toArray, List.set_cons_zero, List.set_cons_succ])
 go_cut [48] (fun v48 wc => ∃ (kq : Nat) (x48_2 : Bool), v48 = .bool x48_2 ∧ Aside0 (impl_ReqOk.j0 kq x48_2 a0_0 a0_1 a0_2 l0_3 l0_4 a0_5 = some r) ∧ Aside0 (kq ≤ k) ∧ Aside0 (wc.heap[gb316]? = some (.cells #[.int .i64 a0_0, .int .i64 a0_1, .int .i64 a0_2, (.slice A0_3 l0_3.length c0_3), (.slice A0_4 l0_4.length c0_4), .int .i64 a0_5] 29 (0, 0))) ∧ Aside0 (wc.heap[gb323]? = some (.cells #[.int .i64 t317, .int .i64 t318] 75 (0, 0))) ∧ Aside0 (wc.heap[gb324]? = some (.cells #[.int .i64 t319, .int .i64 t320] 75 (0, 0))) ∧ Aside0 (wc.heap[gb325]? = some (.cells #[.int .i64 t321, .int .i64 t322] 75 (0, 0))) ∧ Aside0 (Below w.heap.size w wc))
 case first =>
  have H := HC3.out
  clear HC3
  replace H := Option.bind_eq_some_iff.mp H
  obtain ⟨t326, A190, H⟩ := H
  (try dsimp only at H)
  have A19 := aM A190
  clear A190
  by_cases c20 : t326 = true
  rotate_left
  ·replace c20 := Bool.eq_false_iff.mpr c20
   subst c20
   rw [if_neg (show ¬ (false = true) by decide)] at H
   (try dsimp only at H)
   have H' := aM H
   clear H
   have hnb52 := NB316_323.out
   have hnc52 := NB323_316.out
   have hnb53 := NB316_324.out
   have hnc53 := NB324_316.out
   have hnb54 := NB316_325.out
   have hnc54 := NB325_316.out
   obtain ⟨hcz55_0, hfz55_0, hcz55_1, hfz55_1, hcz55_2, hfz55_2, hcz55_3, hfz55_3, hcz55_4, hfz55_4, hcz55_5, hfz55_5⟩ := bk6 BK316.out
   go_wp2_with (first | ((with_reducible refine gate_callee (f := 50) rfl ?_); refine gL (some 15) rfl rfl Try.func50 (by kernel_rfl) rfl #[.int .i64 a0_0] rfl ?_; (with_reducible refine (impl_isKind.calls a0_0 false _ A19.out).mono ?_); rintro e w' ⟨rfl, ⟨nd, rfl⟩⟩; refine ⟨_, rfl, ?_⟩))
   go_meet
   case rel => exact ⟨_, (true), (by first | rfl | (simp; done) | (simp [*]; done)), H', ⟨by first | omega | exact Nat.le_refl _⟩, ⟨kX BK316.out⟩, ⟨kX BK323.out⟩, ⟨kX BK324.out⟩, ⟨kX BK325.out⟩, ⟨bS HB.out⟩⟩
  subst c20
  rw [if_pos rfl] at H
  (try dsimp only at H)
  replace H := Option.bind_eq_some_iff.mp H
  obtain ⟨t327, A210, H⟩ := H
  (try dsimp only at H)
  have A21 := aM A210
  clear A210
  by_cases c22 : t327 = true
  rotate_left
  ·replace c22 := Bool.eq_false_iff.mpr c22
   subst c22
   rw [if_neg (show ¬ (false = true) by decide)] at H
   (try dsimp only at H)
   have H' := aM H
   clear H
   have hnb45 := NB316_323.out
   have hnc45 := NB323_316.out
   have hnb46 := NB316_324.out
   have hnc46 := NB324_316.out
   have hnb47 := NB316_325.out
   have hnc47 := NB325_316.out
   obtain ⟨hcz48_0, hfz48_0, hcz48_1, hfz48_1, hcz48_2, hfz48_2, hcz48_3, hfz48_3, hcz48_4, hfz48_4, hcz48_5, hfz48_5⟩ := bk6 BK316.out
   go_wp2_with (first | ((with_reducible refine gate_callee (f := 50) rfl ?_); refine gL (some 15) rfl rfl Try.func50 (by kernel_rfl) rfl #[.int .i64 a0_0] rfl ?_; (with_reducible refine (impl_isKind.calls a0_0 true _ A19.out).mono ?_); rintro e w' ⟨rfl, ⟨nd, rfl⟩⟩; refine ⟨_, rfl, ?_⟩; have hnb49 := NB323_324.out; have hnc49 := NB324_323.out; have hnb50 := NB323_325.out; have hnc50 := NB325_323.out; obtain ⟨hcz51_0, hfz51_0, hcz51_1, hfz51_1⟩ := bk2 BK323.out) | (go_at_call 61; (with_reducible refine (impl_in.calls a0_2 t317 t318 false _ A21.out).mono ?_); rintro e w' ⟨rfl, ⟨nd, rfl⟩⟩))
   go_meet
   case rel => exact ⟨_, (true), (by first | rfl | (simp; done) | (simp [*]; done)), H', ⟨by first | omega | exact Nat.le_refl _⟩, ⟨kX BK316.out⟩, ⟨kX BK323.out⟩, ⟨kX BK324.out⟩, ⟨kX BK325.out⟩, ⟨bS HB.out⟩⟩
  subst c22
  rw [if_pos rfl] at H
  (try dsimp only at H)
  replace H := Option.bind_eq_some_iff.mp H
  obtain ⟨t328, A230, H⟩ := H
  (try dsimp only at H)
  have A23 := aM A230
  clear A230
  by_cases c24 : t328 = true
  rotate_left
  ·replace c24 := Bool.eq_false_iff.mpr c24
   subst c24
   rw [if_neg (show ¬ (false = true) by decide)] at H
   (try dsimp only at H)
   have H' := aM H
   clear H
   have hnb36 := NB316_323.out
   have hnc36 := NB323_316.out
   have hnb37 := NB316_324.out
   have hnc37 := NB324_316.out
   have hnb38 := NB316_325.out
   have hnc38 := NB325_316.out
   obtain ⟨hcz39_0, hfz39_0, hcz39_1, hfz39_1, hcz39_2, hfz39_2, hcz39_3, hfz39_3, hcz39_4, hfz39_4, hcz39_5, hfz39_5⟩ := bk6 BK316.out
   go_wp2_with (first | ((with_reducible refine gate_callee (f := 50) rfl ?_); refine gL (some 15) rfl rfl Try.func50 (by kernel_rfl) rfl #[.int .i64 a0_0] rfl ?_; (with_reducible refine (impl_isKind.calls a0_0 true _ A19.out).mono ?_); rintro e w' ⟨rfl, ⟨nd, rfl⟩⟩; refine ⟨_, rfl, ?_⟩; have hnb40 := NB323_324.out; have hnc40 := NB324_323.out; have hnb41 := NB323_325.out; have hnc41 := NB325_323.out; obtain ⟨hcz42_0, hfz42_0, hcz42_1, hfz42_1⟩ := bk2 BK323.out) | (go_at_call 61; (with_reducible refine (impl_in.calls a0_2 t317 t318 true _ A21.out).mono ?_); rintro e w' ⟨rfl, ⟨nd, rfl⟩⟩; have hnb43 := NB324_325.out; have hnc43 := NB325_324.out; obtain ⟨hcz44_0, hfz44_0, hcz44_1, hfz44_1⟩ := bk2 BK324.out) | (go_at_call 61; (with_reducible refine (impl_in.calls (l0_3.length : Int) t319 t320 false _ A23.out).mono ?_); rintro e w' ⟨rfl, ⟨nd, rfl⟩⟩))
   go_meet
   case rel => exact ⟨_, (true), (by first | rfl | (simp; done) | (simp [*]; done)), H', ⟨by first | omega | exact Nat.le_refl _⟩, ⟨kX BK316.out⟩, ⟨kX BK323.out⟩, ⟨kX BK324.out⟩, ⟨kX BK325.out⟩, ⟨bS HB.out⟩⟩
  subst c24
  rw [if_pos rfl] at H
  (try dsimp only at H)
  replace H := Option.bind_eq_some_iff.mp H
  obtain ⟨t329, A250, H⟩ := H
  (try dsimp only at H)
  have A25 := aM A250
  clear A250
  have H' := aM H
  clear H
  have hnb26 := NB316_323.out
  have hnc26 := NB323_316.out
  have hnb27 := NB316_324.out
  have hnc27 := NB324_316.out
  have hnb28 := NB316_325.out
  have hnc28 := NB325_316.out
  obtain ⟨hcz29_0, hfz29_0, hcz29_1, hfz29_1, hcz29_2, hfz29_2, hcz29_3, hfz29_3, hcz29_4, hfz29_4, hcz29_5, hfz29_5⟩ := bk6 BK316.out
  go_wp2_with (first | ((with_reducible refine gate_callee (f := 50) rfl ?_); refine gL (some 15) rfl rfl Try.func50 (by kernel_rfl) rfl #[.int .i64 a0_0] rfl ?_; (with_reducible refine (impl_isKind.calls a0_0 true _ A19.out).mono ?_); rintro e w' ⟨rfl, ⟨nd, rfl⟩⟩; refine ⟨_, rfl, ?_⟩; have hnb30 := NB323_324.out; have hnc30 := NB324_323.out; have hnb31 := NB323_325.out; have hnc31 := NB325_323.out; obtain ⟨hcz32_0, hfz32_0, hcz32_1, hfz32_1⟩ := bk2 BK323.out) | (go_at_call 61; (with_reducible refine (impl_in.calls a0_2 t317 t318 true _ A21.out).mono ?_); rintro e w' ⟨rfl, ⟨nd, rfl⟩⟩; have hnb33 := NB324_325.out; have hnc33 := NB325_324.out; obtain ⟨hcz34_0, hfz34_0, hcz34_1, hfz34_1⟩ := bk2 BK324.out) | (go_at_call 61; (with_reducible refine (impl_in.calls (l0_3.length : Int) t319 t320 true _ A23.out).mono ?_); rintro e w' ⟨rfl, ⟨nd, rfl⟩⟩; obtain ⟨hcz35_0, hfz35_0, hcz35_1, hfz35_1⟩ := bk2 BK325.out) | (go_at_call 61; (with_reducible refine (impl_in.calls (l0_4.length : Int) t321 t322 t329 _ A25.out).mono ?_); rintro e w' ⟨rfl, ⟨nd, rfl⟩⟩))
  go_meet
  case rel => exact ⟨_, (!t329), (by first | rfl | (simp; done) | (simp [*]; done)), H', ⟨by first | omega | exact Nat.le_refl _⟩, ⟨kX BK316.out⟩, ⟨kX BK323.out⟩, ⟨kX BK324.out⟩, ⟨kX BK325.out⟩, ⟨bS HB.out⟩⟩
 case rest =>
  clear HC3
  try clear hcz13_0
  try clear hcz13_1
  try clear hcz16_0
  try clear hcz16_1
  try clear hcz18_0
  try clear hcz18_1
  try clear hcz5_0
  try clear hcz5_1
  try clear hcz5_2
  try clear hcz5_3
  try clear hcz5_4
  try clear hcz5_5
  try clear hfz13_0
  try clear hfz13_1
  try clear hfz16_0
  try clear hfz16_1
  try clear hfz18_0
  try clear hfz18_1
  try clear hfz5_0
  try clear hfz5_1
  try clear hfz5_2
  try clear hfz5_3
  try clear hfz5_4
  try clear hfz5_5
  obtain ⟨kq, x48_2, rfl, HA, HJ2, BK316, BK323, BK324, BK325, HB⟩ := hcut
  cases kq with
  | zero => exact absurd HA.out (by simp [impl_ReqOk.j0])
  | succ kj2 =>
   have H := HA.out
   clear HA
   simp only [impl_ReqOk.j0] at H
   by_cases c56 : x48_2 = true
   ·subst c56
    rw [if_pos rfl] at H
    (try dsimp only at H)
    obtain rfl := Option.some.inj H
    go_wp2
    go_ret
    exact ⟨by first | rfl | (simp [errW_none, errW_some] <;> rfl) | (simp [*, errW_none, errW_some] <;> rfl), bS HB.out⟩
   ·replace c56 := Bool.eq_false_iff.mpr c56
    subst c56
    rw [if_neg (show ¬ (false = true) by decide)] at H
    (try dsimp only at H)
    have HC57 := aM H
    clear H
    go_upto_region 4 with (fail)
    go_cut [72] (fun v72 wc => ∃ (kq : Nat) (x72_56 : Bool), v72 = .bool x72_56 ∧ Aside0 (impl_ReqOk.j1 kq x72_56 a0_0 a0_1 a0_2 l0_3 l0_4 a0_5 = some r) ∧ Aside0 (kq ≤ kj2) ∧ Aside0 (wc.heap[gb316]? = some (.cells #[.int .i64 a0_0, .int .i64 a0_1, .int .i64 a0_2, (.slice A0_3 l0_3.length c0_3), (.slice A0_4 l0_4.length c0_4), .int .i64 a0_5] 29 (0, 0))) ∧ Aside0 (wc.heap[gb323]? = some (.cells #[.int .i64 t317, .int .i64 t318] 75 (0, 0))) ∧ Aside0 (wc.heap[gb324]? = some (.cells #[.int .i64 t319, .int .i64 t320] 75 (0, 0))) ∧ Aside0 (wc.heap[gb325]? = some (.cells #[.int .i64 t321, .int .i64 t322] 75 (0, 0))) ∧ Aside0 (Below w.heap.size w wc))
    case first =>
     have H := HC57.out
     clear HC57
     replace H := Option.bind_eq_some_iff.mp H
     obtain ⟨t330, A580, H⟩ := H
     (try dsimp only at H)
     have A58 := aM A580
     clear A580
     by_cases c59 : t330 = true
     rotate_left
     ·replace c59 := Bool.eq_false_iff.mpr c59
      subst c59
      rw [if_neg (show ¬ (false = true) by decide)] at H
      (try dsimp only at H)
      have H' := aM H
      clear H
      have hnb76 := NB316_323.out
      have hnc76 := NB323_316.out
      have hnb77 := NB316_324.out
      have hnc77 := NB324_316.out
      have hnb78 := NB316_325.out
      have hnc78 := NB325_316.out
      obtain ⟨hcz79_0, hfz79_0, hcz79_1, hfz79_1, hcz79_2, hfz79_2, hcz79_3, hfz79_3, hcz79_4, hfz79_4, hcz79_5, hfz79_5⟩ := bk6 BK316.out
      go_wp2_with (first | ((with_reducible refine gate_callee (f := 62) rfl ?_); refine gL (some 51) rfl rfl Try.func62 (by kernel_rfl) rfl #[.int .i64 a0_1] rfl ?_; (with_reducible refine (impl_isWord.calls a0_1 false _ A58.out).mono ?_); rintro e w' ⟨rfl, ⟨nd, rfl⟩⟩; refine ⟨_, rfl, ?_⟩))
      go_meet
      case rel => exact ⟨_, (true), (by first | rfl | (simp; done) | (simp [*]; done)), H', ⟨by have := HJ2.out; first | omega | exact Nat.le_refl _⟩, ⟨kX BK316.out⟩, ⟨kX BK323.out⟩, ⟨kX BK324.out⟩, ⟨kX BK325.out⟩, ⟨bS HB.out⟩⟩
     subst c59
     rw [if_pos rfl] at H
     (try dsimp only at H)
     replace H := Option.bind_eq_some_iff.mp H
     obtain ⟨t331, A600, H⟩ := H
     (try dsimp only at H)
     have A60 := aM A600
     clear A600
     by_cases c61 : t331 = true
     rotate_left
     ·replace c61 := Bool.eq_false_iff.mpr c61
      subst c61
      rw [if_neg (show ¬ (false = true) by decide)] at H
      (try dsimp only at H)
      have H' := aM H
      clear H
      have hnb72 := NB316_323.out
      have hnc72 := NB323_316.out
      have hnb73 := NB316_324.out
      have hnc73 := NB324_316.out
      have hnb74 := NB316_325.out
      have hnc74 := NB325_316.out
      obtain ⟨hcz75_0, hfz75_0, hcz75_1, hfz75_1, hcz75_2, hfz75_2, hcz75_3, hfz75_3, hcz75_4, hfz75_4, hcz75_5, hfz75_5⟩ := bk6 BK316.out
      go_wp2_with (first | ((with_reducible refine gate_callee (f := 62) rfl ?_); refine gL (some 51) rfl rfl Try.func62 (by kernel_rfl) rfl #[.int .i64 a0_1] rfl ?_; (with_reducible refine (impl_isWord.calls a0_1 true _ A58.out).mono ?_); rintro e w' ⟨rfl, ⟨nd, rfl⟩⟩; refine ⟨_, rfl, ?_⟩) | (go_at_call 62; (with_reducible refine (impl_isWord.calls a0_5 false _ A60.out).mono ?_); rintro e w' ⟨rfl, ⟨nd, rfl⟩⟩))
      go_meet
      case rel => exact ⟨_, (true), (by first | rfl | (simp; done) | (simp [*]; done)), H', ⟨by have := HJ2.out; first | omega | exact Nat.le_refl _⟩, ⟨kX BK316.out⟩, ⟨kX BK323.out⟩, ⟨kX BK324.out⟩, ⟨kX BK325.out⟩, ⟨bS HB.out⟩⟩
     subst c61
     rw [if_pos rfl] at H
     (try dsimp only at H)
     replace H := Option.bind_eq_some_iff.mp H
     obtain ⟨t332, A620, H⟩ := H
     (try dsimp only at H)
     have A62 := aM A620
     clear A620
     by_cases c63 : t332 = true
     rotate_left
     ·replace c63 := Bool.eq_false_iff.mpr c63
      subst c63
      rw [if_neg (show ¬ (false = true) by decide)] at H
      (try dsimp only at H)
      have H' := aM H
      clear H
      have hnb68 := NB316_323.out
      have hnc68 := NB323_316.out
      have hnb69 := NB316_324.out
      have hnc69 := NB324_316.out
      have hnb70 := NB316_325.out
      have hnc70 := NB325_316.out
      obtain ⟨hcz71_0, hfz71_0, hcz71_1, hfz71_1, hcz71_2, hfz71_2, hcz71_3, hfz71_3, hcz71_4, hfz71_4, hcz71_5, hfz71_5⟩ := bk6 BK316.out
      go_wp2_with (first | ((with_reducible refine gate_callee (f := 62) rfl ?_); refine gL (some 51) rfl rfl Try.func62 (by kernel_rfl) rfl #[.int .i64 a0_1] rfl ?_; (with_reducible refine (impl_isWord.calls a0_1 true _ A58.out).mono ?_); rintro e w' ⟨rfl, ⟨nd, rfl⟩⟩; refine ⟨_, rfl, ?_⟩) | (go_at_call 62; (with_reducible refine (impl_isWord.calls a0_5 true _ A60.out).mono ?_); rintro e w' ⟨rfl, ⟨nd, rfl⟩⟩) | (go_at_call 63; (with_reducible refine (impl_allWords.calls _ _ l0_3 false _ ?side1 ?side2 A62.out).mono ?_); (case side1 => repeat (first | exact (Kd.C_below HR0_3.out (bS HB.out)) | (with_reducible refine Kd.C_alloc ?_ _) | (with_reducible refine Kd.C_drewN ?_ _) | (with_reducible refine Kd.C_drew ?_))); (case side2 => exact HC0_3.out); rintro e w' ⟨rfl, ⟨nd, rfl⟩⟩))
      go_meet
      case rel => exact ⟨_, (true), (by first | rfl | (simp; done) | (simp [*]; done)), H', ⟨by have := HJ2.out; first | omega | exact Nat.le_refl _⟩, ⟨kX BK316.out⟩, ⟨kX BK323.out⟩, ⟨kX BK324.out⟩, ⟨kX BK325.out⟩, ⟨bS HB.out⟩⟩
     subst c63
     rw [if_pos rfl] at H
     (try dsimp only at H)
     have H' := aM H
     clear H
     have hnb64 := NB316_323.out
     have hnc64 := NB323_316.out
     have hnb65 := NB316_324.out
     have hnc65 := NB324_316.out
     have hnb66 := NB316_325.out
     have hnc66 := NB325_316.out
     obtain ⟨hcz67_0, hfz67_0, hcz67_1, hfz67_1, hcz67_2, hfz67_2, hcz67_3, hfz67_3, hcz67_4, hfz67_4, hcz67_5, hfz67_5⟩ := bk6 BK316.out
     go_wp2_with (first | ((with_reducible refine gate_callee (f := 62) rfl ?_); refine gL (some 51) rfl rfl Try.func62 (by kernel_rfl) rfl #[.int .i64 a0_1] rfl ?_; (with_reducible refine (impl_isWord.calls a0_1 true _ A58.out).mono ?_); rintro e w' ⟨rfl, ⟨nd, rfl⟩⟩; refine ⟨_, rfl, ?_⟩) | (go_at_call 62; (with_reducible refine (impl_isWord.calls a0_5 true _ A60.out).mono ?_); rintro e w' ⟨rfl, ⟨nd, rfl⟩⟩) | (go_at_call 63; (with_reducible refine (impl_allWords.calls _ _ l0_3 true _ ?side1 ?side2 A62.out).mono ?_); (case side1 => repeat (first | exact (Kd.C_below HR0_3.out (bS HB.out)) | (with_reducible refine Kd.C_alloc ?_ _) | (with_reducible refine Kd.C_drewN ?_ _) | (with_reducible refine Kd.C_drew ?_))); (case side2 => exact HC0_3.out); rintro e w' ⟨rfl, ⟨nd, rfl⟩⟩))
     go_meet
     case rel => exact ⟨_, (decide ((wrap64 (a0_1 + a0_2)) > 65536)), (by first | rfl | (simp; done) | (simp [*]; done)), H', ⟨by have := HJ2.out; first | omega | exact Nat.le_refl _⟩, ⟨kX BK316.out⟩, ⟨kX BK323.out⟩, ⟨kX BK324.out⟩, ⟨kX BK325.out⟩, ⟨bS HB.out⟩⟩
    case rest =>
     clear HC57
     try clear c1
     try clear c2
     try clear p2
     try clear c3
     try clear c4
     try clear c5
     try clear c6
     try clear c10
     try clear c11
     try clear c12
     try clear c14
     try clear c15
     try clear c17
     try clear c20
     try clear c22
     try clear c24
     try clear c25
     try clear c26
     try clear c27
     try clear c28
     try clear c30
     try clear c31
     try clear c33
     try clear c36
     try clear c37
     try clear c38
     try clear c40
     try clear c41
     try clear c43
     try clear c45
     try clear c46
     try clear c47
     try clear c49
     try clear c50
     try clear c52
     try clear c53
     try clear c54
     try clear c56
     try clear hcz13_0
     try clear hcz13_1
     try clear hcz16_0
     try clear hcz16_1
     try clear hcz18_0
     try clear hcz18_1
     try clear hcz29_0
     try clear hcz29_1
     try clear hcz29_2
     try clear hcz29_3
     try clear hcz29_4
     try clear hcz29_5
     try clear hcz32_0
     try clear hcz32_1
     try clear hcz34_0
     try clear hcz34_1
     try clear hcz35_0
     try clear hcz35_1
     try clear hcz39_0
     try clear hcz39_1
     try clear hcz39_2
     try clear hcz39_3
     try clear hcz39_4
     try clear hcz39_5
     try clear hcz42_0
     try clear hcz42_1
     try clear hcz44_0
     try clear hcz44_1
     try clear hcz48_0
     try clear hcz48_1
     try clear hcz48_2
     try clear hcz48_3
     try clear hcz48_4
     try clear hcz48_5
     try clear hcz51_0
     try clear hcz51_1
     try clear hcz55_0
     try clear hcz55_1
     try clear hcz55_2
     try clear hcz55_3
     try clear hcz55_4
     try clear hcz55_5
     try clear hcz5_0
     try clear hcz5_1
     try clear hcz5_2
     try clear hcz5_3
     try clear hcz5_4
     try clear hcz5_5
     try clear hfz13_0
     try clear hfz13_1
     try clear hfz16_0
     try clear hfz16_1
     try clear hfz18_0
     try clear hfz18_1
     try clear hfz29_0
     try clear hfz29_1
     try clear hfz29_2
     try clear hfz29_3
     try clear hfz29_4
     try clear hfz29_5
     try clear hfz32_0
     try clear hfz32_1
     try clear hfz34_0
     try clear hfz34_1
     try clear hfz35_0
     try clear hfz35_1
     try clear hfz39_0
     try clear hfz39_1
     try clear hfz39_2
     try clear hfz39_3
     try clear hfz39_4
     try clear hfz39_5
     try clear hfz42_0
     try clear hfz42_1
     try clear hfz44_0
     try clear hfz44_1
     try clear hfz48_0
     try clear hfz48_1
     try clear hfz48_2
     try clear hfz48_3
     try clear hfz48_4
     try clear hfz48_5
     try clear hfz51_0
     try clear hfz51_1
     try clear hfz55_0
     try clear hfz55_1
     try clear hfz55_2
     try clear hfz55_3
     try clear hfz55_4
     try clear hfz55_5
     try clear hfz5_0
     try clear hfz5_1
     try clear hfz5_2
     try clear hfz5_3
     try clear hfz5_4
     try clear hfz5_5
     try clear p2
     obtain ⟨kq, x72_56, rfl, HA, HJ56, BK316, BK323, BK324, BK325, HB⟩ := hcut
     cases kq with
     | zero => exact absurd HA.out (by simp [impl_ReqOk.j1])
     | succ kj56 =>
      have H := HA.out
      clear HA
      simp only [impl_ReqOk.j1] at H
      by_cases c80 : x72_56 = true
      ·subst c80
       rw [if_pos rfl] at H
       (try dsimp only at H)
       obtain rfl := Option.some.inj H
       go_wp2
       go_ret
       exact ⟨by first | rfl | (simp [errW_none, errW_some] <;> rfl) | (simp [*, errW_none, errW_some] <;> rfl), bS HB.out⟩
      ·replace c80 := Bool.eq_false_iff.mpr c80
       subst c80
       rw [if_neg (show ¬ (false = true) by decide)] at H
       (try dsimp only at H)
       by_cases c81 : a0_0 = 23
       rotate_left
       ·rw [if_neg c81] at H
        have c81b0 : (a0_0 == 23) = false := beq_eq_false_iff_ne.mpr c81
        have c81b1 : (a0_0 != 23) = true := bne_iff_ne.mpr c81
        by_cases c89 : a0_5 = 0
        rotate_left
        ·rw [if_neg c89] at H
         have c89b0 : (a0_5 == 0) = false := beq_eq_false_iff_ne.mpr c89
         have c89b1 : (a0_5 != 0) = true := bne_iff_ne.mpr c89
         obtain rfl := Option.some.inj H
         have hnb97 := NB316_323.out
         have hnc97 := NB323_316.out
         have hnb98 := NB316_324.out
         have hnc98 := NB324_316.out
         have hnb99 := NB316_325.out
         have hnc99 := NB325_316.out
         obtain ⟨hcz100_0, hfz100_0, hcz100_1, hfz100_1, hcz100_2, hfz100_2, hcz100_3, hfz100_3, hcz100_4, hfz100_4, hcz100_5, hfz100_5⟩ := bk6 BK316.out
         try go_wp2
         have n0_ := aM (blk_drew BK316.out)
         have n1_ := aM (blk_drew BK323.out)
         have n2_ := aM (blk_drew BK324.out)
         have n3_ := aM (blk_drew BK325.out)
         have n4_ := aM (below_drew1 HB.out)
         clear BK316
         clear BK323
         clear BK324
         clear BK325
         clear HB
         have BK316 := n0_
         have BK323 := n1_
         have BK324 := n2_
         have BK325 := n3_
         have HB := n4_
         clear n0_ n1_ n2_ n3_ n4_
         refine start_ (n := 12) (S := fun w' => w'.cell? ⟨gb316, 0, none⟩ = some (.int .i64 a0_0) ∧ w'.cell? ⟨gb316, 1, none⟩ = some (.int .i64 a0_1) ∧ w'.cell? ⟨gb316, 2, none⟩ = some (.int .i64 a0_2) ∧ w'.cell? ⟨gb316, 3, none⟩ = some (.slice A0_3 l0_3.length c0_3) ∧ w'.cell? ⟨gb316, 4, none⟩ = some (.slice A0_4 l0_4.length c0_4) ∧ w'.cell? ⟨gb316, 5, none⟩ = some (.int .i64 a0_5)) (ds := []) #[false, false, false, false, false, false, false, false, false, false, false, false] (by kernel_rfl) rfl rfl ⟨(blk_cell BK316.out 0).trans rfl, (blk_cell BK316.out 1).trans rfl, (blk_cell BK316.out 2).trans rfl, (blk_cell BK316.out 3).trans rfl, (blk_cell BK316.out 4).trans rfl, (blk_cell BK316.out 5).trans rfl⟩ (fun hHeld => ?_); refine with_tabW impl_ReqOk.tab8 impl_ReqOk.bits8 (fun HT_ HW_ => ?_)
         generalize wc.drew = w101 at BK316 BK323 BK324 BK325 HB hHeld ⊢
         refine pU (i := 0) (N := some 82) #[true, false, false, false, false, false, false, false, false, false, false, false] HT_ ?_
         refine take_ (i := 1) (N := some 83) (v := ?_) (a' := ?_) #[true, true, false, false, false, false, false, false, false, false, false, false] rfl rfl (take_ofW HT_.out HW_.out (by kernel_rfl)) (fun _ _ _ h => h) (Or.inl ⟨by rfl, ?_⟩) hHeld ?_ ?_
         rotate_left
         ·rintro w' ⟨s0, s1, s2, s3, s4, s5⟩
          go_simp
          with_reducible rfl
         rotate_left
         ·simp only [Act.put, List.setIfInBounds_toArray, List.set_cons_zero, List.set_cons_succ, i64_w, i32_w]
          rfl
         refine pU (i := 2) (N := some 84) #[true, true, true, false, false, false, false, false, false, false, false, false] HT_ ?_
         refine pU (i := 3) (N := some 85) #[true, true, true, true, false, false, false, false, false, false, false, false] HT_ ?_
         refine pN (i := 4) (N := some 86) #[true, true, true, true, true, false, false, false, false, false, false, false] HT_ ?_
         refine pN (i := 5) (N := some 87) #[true, true, true, true, true, true, false, false, false, false, false, false] HT_ ?_
         refine pN (i := 6) (N := some 88) #[true, true, true, true, true, true, true, false, false, false, false, false] HT_ ?_
         refine pN (i := 7) (N := some 89) #[true, true, true, true, true, true, true, true, false, false, false, false] HT_ ?_
         refine pN (i := 8) (N := some 90) #[true, true, true, true, true, true, true, true, true, false, false, false] HT_ ?_
         refine pN (i := 9) (N := some 91) #[true, true, true, true, true, true, true, true, true, true, false, false] HT_ ?_
         refine pU (i := 10) (N := some 92) #[true, true, true, true, true, true, true, true, true, true, true, false] HT_ ?_
         refine pU (i := 11) (N := some 2) #[true, true, true, true, true, true, true, true, true, true, true, true] HT_ ?_
         refine done_ (done_of HT_.out (by kernel_rfl)) ?_
         try go_wp2
         go_ret
         exact ⟨by first | rfl | (simp [errW_none, errW_some] <;> rfl) | (simp [*, errW_none, errW_some] <;> rfl), bS HB.out⟩
        rw [if_pos c89] at H
        have c89b0 : (a0_5 == 0) = true := beq_iff_eq.mpr c89
        have c89b1 : (a0_5 != 0) = false := bne_eq_false_iff_eq.mpr c89
        clear c89
        replace H := Option.bind_eq_some_iff.mp H
        obtain ⟨t334, A900, H⟩ := H
        (try dsimp only at H)
        have A90 := aM A900
        clear A900
        obtain rfl := Option.some.inj H
        have hnb91 := NB316_323.out
        have hnc91 := NB323_316.out
        have hnb92 := NB316_324.out
        have hnc92 := NB324_316.out
        have hnb93 := NB316_325.out
        have hnc93 := NB325_316.out
        obtain ⟨hcz94_0, hfz94_0, hcz94_1, hfz94_1, hcz94_2, hfz94_2, hcz94_3, hfz94_3, hcz94_4, hfz94_4, hcz94_5, hfz94_5⟩ := bk6 BK316.out
        try go_wp2
        have n0_ := aM (blk_drew BK316.out)
        have n1_ := aM (blk_drew BK323.out)
        have n2_ := aM (blk_drew BK324.out)
        have n3_ := aM (blk_drew BK325.out)
        have n4_ := aM (below_drew1 HB.out)
        clear BK316
        clear BK323
        clear BK324
        clear BK325
        clear HB
        have BK316 := n0_
        have BK323 := n1_
        have BK324 := n2_
        have BK325 := n3_
        have HB := n4_
        clear n0_ n1_ n2_ n3_ n4_
        refine start_ (n := 12) (S := fun w' => w'.cell? ⟨gb316, 0, none⟩ = some (.int .i64 a0_0) ∧ w'.cell? ⟨gb316, 1, none⟩ = some (.int .i64 a0_1) ∧ w'.cell? ⟨gb316, 2, none⟩ = some (.int .i64 a0_2) ∧ w'.cell? ⟨gb316, 3, none⟩ = some (.slice A0_3 l0_3.length c0_3) ∧ w'.cell? ⟨gb316, 4, none⟩ = some (.slice A0_4 l0_4.length c0_4) ∧ w'.cell? ⟨gb316, 5, none⟩ = some (.int .i64 a0_5)) (ds := []) #[false, false, false, false, false, false, false, false, false, false, false, false] (by kernel_rfl) rfl rfl ⟨(blk_cell BK316.out 0).trans rfl, (blk_cell BK316.out 1).trans rfl, (blk_cell BK316.out 2).trans rfl, (blk_cell BK316.out 3).trans rfl, (blk_cell BK316.out 4).trans rfl, (blk_cell BK316.out 5).trans rfl⟩ (fun hHeld => ?_); refine with_tabW impl_ReqOk.tab8 impl_ReqOk.bits8 (fun HT_ HW_ => ?_)
        generalize wc.drew = w95 at BK316 BK323 BK324 BK325 HB hHeld ⊢
        refine pU (i := 0) (N := some 82) #[true, false, false, false, false, false, false, false, false, false, false, false] HT_ ?_
        refine take_ (i := 1) (N := some 83) (v := ?_) (a' := ?_) #[true, true, false, false, false, false, false, false, false, false, false, false] rfl rfl (take_ofW HT_.out HW_.out (by kernel_rfl)) (fun _ _ _ h => h) (Or.inl ⟨by rfl, ?_⟩) hHeld ?_ ?_
        rotate_left
        ·rintro w' ⟨s0, s1, s2, s3, s4, s5⟩
         go_simp
         with_reducible rfl
        rotate_left
        ·simp only [Act.put, List.setIfInBounds_toArray, List.set_cons_zero, List.set_cons_succ, i64_w, i32_w]
         rfl
        refine pU (i := 2) (N := some 84) #[true, true, true, false, false, false, false, false, false, false, false, false] HT_ ?_
        refine pU (i := 3) (N := some 85) #[true, true, true, true, false, false, false, false, false, false, false, false] HT_ ?_
        refine pU (i := 4) (N := some 86) #[true, true, true, true, true, false, false, false, false, false, false, false] HT_ ?_
        refine take_ (i := 5) (N := some 87) (v := ?_) (a' := ?_) #[true, true, true, true, true, true, false, false, false, false, false, false] rfl rfl (take_ofW HT_.out HW_.out (by kernel_rfl)) (fun _ _ _ h => h) (Or.inl ⟨by rfl, ?_⟩) hHeld ?_ ?_
        rotate_left
        ·rintro w' ⟨s0, s1, s2, s3, s4, s5⟩
         go_simp
         with_reducible rfl
        rotate_left
        ·simp only [Act.put, List.setIfInBounds_toArray, List.set_cons_zero, List.set_cons_succ, i64_w, i32_w]
         rfl
        refine take_ (i := 6) (N := some 88) (v := ?_) (a' := ?_) #[true, true, true, true, true, true, true, false, false, false, false, false] rfl rfl (take_ofW HT_.out HW_.out (by kernel_rfl)) (fun _ _ _ h => h) (Or.inl ⟨by rfl, ?_⟩) hHeld ?_ ?_
        rotate_left
        ·rintro w' ⟨s0, s1, s2, s3, s4, s5⟩
         go_simp
         with_reducible rfl
        rotate_left
        ·simp only [Act.put, List.setIfInBounds_toArray, List.set_cons_zero, List.set_cons_succ, i64_w, i32_w]
         rfl
        refine one_ (i := 7) (N := some 89) #[true, true, true, true, true, true, true, true, false, false, false, false] rfl rfl (one_of HT_.out (by kernel_rfl)) (by decide) (fun K hK => ?_)
        refine goes_ Try.func32 (by kernel_rfl) rfl #[.agg #[.int .i64 a0_0, .int .i64 a0_1, .int .i64 a0_2, .slice A0_3 l0_3.length c0_3, .slice A0_4 l0_4.length c0_4, .int .i64 a0_5]] (by rfl) rfl rfl (by (try simp only [List.map_toArray, List.map_cons, List.map_nil]); first | done | rfl | (simp only [List.length_drop, List.length_take]; rfl)) ?_
        with_reducible refine (impl_written.calls a0_0 a0_1 a0_2 _ _ l0_3 _ _ l0_4 a0_5 t334 _ ?side1 ?side2 ?side3 ?side4 A90.out).mono ?_
        (case side1 => exact cB HR0_3.out HB.out)
        (case side2 => exact HC0_3.out)
        (case side3 => exact cB HR0_4.out HB.out)
        (case side4 => exact HC0_4.out)
        rintro e w96 ⟨rfl, hb⟩
        refine ⟨_, rfl, ?_⟩
        have n0_ := aM (kB BK316.out hb)
        have n1_ := aM (kB BK323.out hb)
        have n2_ := aM (kB BK324.out hb)
        have n3_ := aM (kB BK325.out hb)
        have n4_ := aM (below_step (bS HB.out) hb)
        clear BK316
        clear BK323
        clear BK324
        clear BK325
        clear HB
        have BK316 := n0_
        have BK323 := n1_
        have BK324 := n2_
        have BK325 := n3_
        have HB := n4_
        clear n0_ n1_ n2_ n3_ n4_
        (try clear hb)
        (try clear hb2)
        (try clear hk)
        (try clear hi)
        refine hK.out _ _ ⟨(blk_cell BK316.out 0).trans rfl, (blk_cell BK316.out 1).trans rfl, (blk_cell BK316.out 2).trans rfl, (blk_cell BK316.out 3).trans rfl, (blk_cell BK316.out 4).trans rfl, (blk_cell BK316.out 5).trans rfl⟩ (fun hHeld => ?_)
        clear hK K
        refine norm_ (a' := ?_) ?_ ?_
        rotate_left
        ·show Act.put _ (some 89) _ = _
         simp only [Act.put, List.setIfInBounds_toArray, List.set_cons_zero, List.set_cons_succ, i64_w, i32_w]
         rfl
        refine pU (i := 8) (N := some 90) #[true, true, true, true, true, true, true, true, true, false, false, false] HT_ ?_
        refine pU (i := 9) (N := some 91) #[true, true, true, true, true, true, true, true, true, true, false, false] HT_ ?_
        refine pU (i := 10) (N := some 92) #[true, true, true, true, true, true, true, true, true, true, true, false] HT_ ?_
        refine pU (i := 11) (N := some 2) #[true, true, true, true, true, true, true, true, true, true, true, true] HT_ ?_
        refine done_ (done_of HT_.out (by kernel_rfl)) ?_
        try go_wp2
        go_ret
        exact ⟨by first | rfl | (simp [errW_none, errW_some] <;> rfl) | (simp [*, errW_none, errW_some] <;> rfl), bS HB.out⟩
       rw [if_pos c81] at H
       have c81b0 : (a0_0 == 23) = true := beq_iff_eq.mpr c81
       have c81b1 : (a0_0 != 23) = false := bne_eq_false_iff_eq.mpr c81
       clear c81
       replace H := Option.bind_eq_some_iff.mp H
       obtain ⟨t333, A820, H⟩ := H
       (try dsimp only at H)
       have A82 := aM A820
       clear A820
       obtain rfl := Option.some.inj H
       have hnb83 := NB316_323.out
       have hnc83 := NB323_316.out
       have hnb84 := NB316_324.out
       have hnc84 := NB324_316.out
       have hnb85 := NB316_325.out
       have hnc85 := NB325_316.out
       obtain ⟨hcz86_0, hfz86_0, hcz86_1, hfz86_1, hcz86_2, hfz86_2, hcz86_3, hfz86_3, hcz86_4, hfz86_4, hcz86_5, hfz86_5⟩ := bk6 BK316.out
       try go_wp2
       have n0_ := aM (blk_drew BK316.out)
       have n1_ := aM (blk_drew BK323.out)
       have n2_ := aM (blk_drew BK324.out)
       have n3_ := aM (blk_drew BK325.out)
       have n4_ := aM (below_drew1 HB.out)
       clear BK316
       clear BK323
       clear BK324
       clear BK325
       clear HB
       have BK316 := n0_
       have BK323 := n1_
       have BK324 := n2_
       have BK325 := n3_
       have HB := n4_
       clear n0_ n1_ n2_ n3_ n4_
       refine start_ (n := 7) (S := fun w' => w'.cell? ⟨gb316, 0, none⟩ = some (.int .i64 a0_0) ∧ w'.cell? ⟨gb316, 1, none⟩ = some (.int .i64 a0_1) ∧ w'.cell? ⟨gb316, 2, none⟩ = some (.int .i64 a0_2) ∧ w'.cell? ⟨gb316, 3, none⟩ = some (.slice A0_3 l0_3.length c0_3) ∧ w'.cell? ⟨gb316, 4, none⟩ = some (.slice A0_4 l0_4.length c0_4) ∧ w'.cell? ⟨gb316, 5, none⟩ = some (.int .i64 a0_5)) (ds := []) #[false, false, false, false, false, false, false] (by kernel_rfl) rfl rfl ⟨(blk_cell BK316.out 0).trans rfl, (blk_cell BK316.out 1).trans rfl, (blk_cell BK316.out 2).trans rfl, (blk_cell BK316.out 3).trans rfl, (blk_cell BK316.out 4).trans rfl, (blk_cell BK316.out 5).trans rfl⟩ (fun hHeld => ?_)
       generalize wc.drew = w87 at BK316 BK323 BK324 BK325 HB hHeld ⊢
       refine pure_ (i := 0) (N := some 76) (v := ?_) (a' := ?_) #[true, false, false, false, false, false, false] rfl rfl (by kernel_rfl) (fun _ _ _ h => h) (Or.inl ⟨by rfl, ?_⟩) ?_ ?_
       rotate_left
       ·intro w'
        go_simp
        with_reducible rfl
       rotate_left
       ·simp only [Act.put, List.setIfInBounds_toArray, List.set_cons_zero, List.set_cons_succ, i64_w, i32_w]
        rfl
       refine take_ (i := 1) (N := some 77) (v := ?_) (a' := ?_) #[true, true, false, false, false, false, false] rfl rfl (by kernel_rfl) (fun _ _ _ h => h) (Or.inl ⟨by rfl, ?_⟩) hHeld ?_ ?_
       rotate_left
       ·rintro w' ⟨s0, s1, s2, s3, s4, s5⟩
        go_simp
        with_reducible rfl
       rotate_left
       ·simp only [Act.put, List.setIfInBounds_toArray, List.set_cons_zero, List.set_cons_succ, i64_w, i32_w]
        rfl
       refine take_ (i := 2) (N := some 78) (v := ?_) (a' := ?_) #[true, true, true, false, false, false, false] rfl rfl (by kernel_rfl) (fun _ _ _ h => h) (Or.inl ⟨by rfl, ?_⟩) hHeld ?_ ?_
       rotate_left
       ·rintro w' ⟨s0, s1, s2, s3, s4, s5⟩
        go_simp
        with_reducible rfl
       rotate_left
       ·simp only [Act.put, List.setIfInBounds_toArray, List.set_cons_zero, List.set_cons_succ, i64_w, i32_w]
        rfl
       refine one_ (i := 3) (N := some 79) #[true, true, true, true, false, false, false] rfl rfl (by kernel_rfl) (by decide) (fun K hK => ?_)
       refine goes_ Try.func32 (by kernel_rfl) rfl #[.agg #[.int .i64 a0_0, .int .i64 a0_1, .int .i64 a0_2, .slice A0_3 l0_3.length c0_3, .slice A0_4 l0_4.length c0_4, .int .i64 a0_5]] (by rfl) rfl rfl (by (try simp only [List.map_toArray, List.map_cons, List.map_nil]); first | done | rfl | (simp only [List.length_drop, List.length_take]; rfl)) ?_
       with_reducible refine (impl_written.calls a0_0 a0_1 a0_2 _ _ l0_3 _ _ l0_4 a0_5 t333 _ ?side1 ?side2 ?side3 ?side4 A82.out).mono ?_
       (case side1 => exact cB HR0_3.out HB.out)
       (case side2 => exact HC0_3.out)
       (case side3 => exact cB HR0_4.out HB.out)
       (case side4 => exact HC0_4.out)
       rintro e w88 ⟨rfl, hb⟩
       refine ⟨_, rfl, ?_⟩
       have n0_ := aM (kB BK316.out hb)
       have n1_ := aM (kB BK323.out hb)
       have n2_ := aM (kB BK324.out hb)
       have n3_ := aM (kB BK325.out hb)
       have n4_ := aM (below_step (bS HB.out) hb)
       clear BK316
       clear BK323
       clear BK324
       clear BK325
       clear HB
       have BK316 := n0_
       have BK323 := n1_
       have BK324 := n2_
       have BK325 := n3_
       have HB := n4_
       clear n0_ n1_ n2_ n3_ n4_
       (try clear hb)
       (try clear hb2)
       (try clear hk)
       (try clear hi)
       refine hK.out _ _ ⟨(blk_cell BK316.out 0).trans rfl, (blk_cell BK316.out 1).trans rfl, (blk_cell BK316.out 2).trans rfl, (blk_cell BK316.out 3).trans rfl, (blk_cell BK316.out 4).trans rfl, (blk_cell BK316.out 5).trans rfl⟩ (fun hHeld => ?_)
       clear hK K
       refine norm_ (a' := ?_) ?_ ?_
       rotate_left
       ·show Act.put _ (some 79) _ = _
        simp only [Act.put, List.setIfInBounds_toArray, List.set_cons_zero, List.set_cons_succ, i64_w, i32_w]
        rfl
       refine pure_ (i := 4) (N := some 80) (v := ?_) (a' := ?_) #[true, true, true, true, true, false, false] rfl rfl (by kernel_rfl) (fun _ _ _ h => h) (Or.inl ⟨by rfl, ?_⟩) ?_ ?_
       rotate_left
       ·intro w'
        go_simp
        with_reducible rfl
       rotate_left
       ·simp only [Act.put, List.setIfInBounds_toArray, List.set_cons_zero, List.set_cons_succ, i64_w, i32_w]
        rfl
       refine pure_ (i := 5) (N := some 81) (v := ?_) (a' := ?_) #[true, true, true, true, true, true, false] rfl rfl (by kernel_rfl) (fun _ _ _ h => h) (Or.inl ⟨by rfl, ?_⟩) ?_ ?_
       rotate_left
       ·intro w'
        go_simp
        with_reducible rfl
       rotate_left
       ·simp only [Act.put, List.setIfInBounds_toArray, List.set_cons_zero, List.set_cons_succ, i64_w, i32_w]
        rfl
       refine pure_ (i := 6) (N := some 2) (v := ?_) (a' := ?_) #[true, true, true, true, true, true, true] rfl rfl (by kernel_rfl) (fun _ _ _ h => h) (Or.inl ⟨by rfl, ?_⟩) ?_ ?_
       rotate_left
       ·intro w'
        go_simp
        with_reducible rfl
       rotate_left
       ·simp only [Act.put, List.setIfInBounds_toArray, List.set_cons_zero, List.set_cons_succ, i64_w, i32_w]
        rfl
       refine done_ (by kernel_rfl) ?_
       try go_wp2
       go_ret
       exact ⟨by first | rfl | (simp [errW_none, errW_some] <;> rfl) | (simp [*, errW_none, errW_some] <;> rfl), bS HB.out⟩
end Go.Proofs.Yteoghpcgompajaa.G
