/- Contracts of functions, for more than one law: what they compute. -/
import Derived.Test.YtiogbjbkfhhdhaaProg
import Derived.Test.YtiogbjbkfhhdhaaWMore
import Derived.Test.YtiogbjbkfhhdhaaWRepsOne
import Derived.Test.YtiogbjbkfhhdhaaWTab
import Derived.WalkSpells
import Derived.Test.YtiogbjbkfhhdhaaL
import Derived.Below
import Derived.Deep.Draws
import Derived.Deep.AppendLies
import Derived.Maps.AppendAt
import Derived.OwnWalk
import Derived.Laws.BytesArg
import Derived.Laws.MakeOwn
import Derived.Laws.OwnMore
import Derived.Deep.OwnRows
import Derived.Tactics
import Derived.Lib.ConvBytes
import Derived.Laws.Slices
import Derived.WalkKit
import Derived.KernelRfl
import Derived.RowKit3
import Derived.Deep.LoopGhost
import Derived.Deep.QuietTactic
import Derived.BigQuiet
import Derived.WideLaws
import Derived.Deep.DeepCutAuto
import Derived.Deep.CutBlock
import Derived.Deep.RegionHeld3
import Derived.Laws.Rows
import Derived.Lib.AppendStr
import Derived.ArgAppend
import Derived.Laws.IdiomCopy
import Derived.OrdersHeld
import Derived.Laws.BitsLemmas
import Derived.RowKit
import Derived.Test.YtiogbjbkfhhdhaaWWords
import Derived.Test.YtiogbjbkfhhdhaaWLast
import Derived.Test.YtiogbjbkfhhdhaaWApart
import Derived.Test.YtiogbjbkfhhdhaaWFoot
import Derived.Test.YtiogbjbkfhhdhaaWKept
import Derived.Test.YtiogbjbkfhhdhaaWShare
import Derived.Test.YtiogbjbkfhhdhaaWN
import Derived.Laws.StructEq
import Derived.Test.YtiogbjbkfhhdhaaWInv
import Derived.Test.YtiogbjbkfhhdhaaWGuard
namespace Go.Proofs.Ytiogbjbkfhhdhaa.G
open Go.Proofs.Ytiogbjbkfhhdhaa.K Go Go.RowKit Go.Proofs.YtiogbjbkfhhdhaaW.PrintWords Go.Proofs.YtiogbjbkfhhdhaaW.PrintLast Go.Proofs.YtiogbjbkfhhdhaaW.PrintMore
attribute [local go_sem] max2_int min2_int max_two min_two max_three min_three max_four min_four   -- for this text's walks alone
set_option linter.unusedVariables false
set_option linter.unusedSimpArgs false

/-! ### spec_l1In: function 54 -/
def spec_l1In.f (a0 : Int) (a1 : Int) (a2 : Int) : Option (Bool) := if a0 ≥ a1 then (some (decide (a0 ≤ a2))) else (some false)
set_option maxHeartbeats 8000000 in
set_option maxRecDepth 100000 in
theorem spec_l1In.calls (a0 : Int) (a1 : Int) (a2 : Int) (r : Bool) (w : World) (h : spec_l1In.f a0 a1 a2 = some r) :
  Calls Try.prog 54 #[.int .i64 a0, .int .i64 a1, .int .i64 a2] w fun e w' => e = .returned (.bool r) ∧ Drawn0 w w' := by
 have H : (if a0 ≥ a1 then (some (decide (a0 ≤ a2))) else (some false)) = some r := h
 clear h
 by_cases c4 : a0 ≥ a1
 rotate_left
 ·rw [if_neg c4] at H
  have c4b0 : decide (a1 ≤ a0) = false := decide_eq_false c4
  clear c4
  obtain rfl := Option.some.inj H
  go_enter Try.func54, Try.ntmps54
  go_wp2
  go_ret
  exact ⟨by first | rfl | (simp; done) | (simp [*]; done), by repeat (first | exact Drawn0.refl _ | apply Drawn0.step)⟩
 rw [if_pos c4] at H
 have c4b0 : decide (a1 ≤ a0) = true := decide_eq_true c4
 clear c4
 obtain rfl := Option.some.inj H
 go_enter Try.func54, Try.ntmps54
 go_wp2
 go_ret
 exact ⟨by first | rfl | (simp; done) | (simp [*]; done), by repeat (first | exact Drawn0.refl _ | apply Drawn0.step)⟩
/-! ### spec_l3Words: function 53 -/
def spec_l3Words.l0 : Nat → List Int → Int → Option (Bool)
 | 0, _, _ => none
 | k + 1, x0, x3 => if x3 < (x0.length : Int) then (if 0 ≤ x3 then ((spec_l1In.f (rd x0 x3) 0 65535).bind fun t191 => (if t191 = true then (spec_l3Words.l0 k x0 (wrap64 (x3 + 1))) else (some false))) else (none)) else (some true)
def spec_l3Words.f (k : Nat) (l0 : List Int) : Option (Bool) := spec_l3Words.l0 k l0 0
theorem spec_l3Words.mono_l : ∀ k, (∀ y0 y1, LeO (spec_l3Words.l0 k y0 y1) (spec_l3Words.l0 (k + 1) y0 y1))
 | 0 => fun _ _ r h => by simp [spec_l3Words.l0] at h
 | k + 1 => by
  have ih0 := spec_l3Words.mono_l k
  ·intro y0 y1
   unfold spec_l3Words.l0
   repeat' first
   | (with_reducible exact ih0 _ _)
   | (with_reducible exact LeO.refl _)
   | (with_reducible exact LeO.none _)
   | (with_reducible refine LeO.ite ?_ ?_)
   | (with_reducible refine LeO.bind ?_ (fun _ => ?_))
   | exact ih0 _ _
   | exact LeO.none _
   | refine LeO.ite ?_ ?_
   | refine LeO.bind ?_ (fun _ => ?_)
theorem spec_l3Words.mono : ∀ a0 k, LeO (spec_l3Words.f k a0) (spec_l3Words.f (k + 1) a0) := by
 intro a0 k
 have ih0 := spec_l3Words.mono_l k
 unfold spec_l3Words.f
 repeat' first
   | (with_reducible exact ih0 _ _)
   | (with_reducible exact LeO.refl _)
   | (with_reducible exact LeO.none _)
   | (with_reducible refine LeO.ite ?_ ?_)
   | (with_reducible refine LeO.bind ?_ (fun _ => ?_))
   | exact ih0 _ _
   | exact LeO.none _
   | refine LeO.ite ?_ ?_
   | refine LeO.bind ?_ (fun _ => ?_)
set_option maxHeartbeats 8000000 in
set_option maxRecDepth 100000 in
theorem spec_l3Words.calls (k : Nat) (A0 : Option Addr) (c0 : Nat) (l0 : List Int) (r : Bool) (w : World) (hr0 : Kd.C (Kd.int .i64) w A0 l0.length l0) (hc0 : l0.length ≤ c0) (h : spec_l3Words.f k l0 = some r) :
  Calls Try.prog 53 #[.slice A0 l0.length c0] w fun e w' => e = .returned (.bool r) ∧ Drawn0 w w' := by
 have HR0 := aM hr0
 have HC0 := aM hc0
 clear hr0 hc0
 have H : (spec_l3Words.l0 k l0 0) = some r := h
 clear h
 have H' := aM H
 clear H
 go_enter Try.func53, Try.ntmps53
 go_wp2
 go_loopg [3] k (fun kq v3 w' => ∃ (x3_1 : Int), v3 = .int .i64 x3_1 ∧ Aside0 (spec_l3Words.l0 kq l0 x3_1 = some r) ∧ Aside0 (kq ≤ k) ∧ Drawn0 w w')
 case atStart => exact ⟨(0), (by first | rfl | (simp; done) | (simp [*]; done)), H', ⟨Nat.le_refl _⟩, by repeat (first | exact Drawn0.refl _ | apply Drawn0.step)⟩
 case round =>
  clear H'
  obtain ⟨x3_1, rfl, HA, HK1, ⟨m1, rfl⟩⟩ := hrel
  cases gk with
  | zero => exact absurd HA.out (by simp [spec_l3Words.l0])
  | succ k1 =>
   have H := HA.out
   clear HA
   simp only [spec_l3Words.l0] at H
   by_cases c2 : x3_1 < (l0.length : Int)
   rotate_left
   ·rw [if_neg c2] at H
    have c2b0 : decide (x3_1 < (l0.length : Int)) = false := decide_eq_false c2
    clear c2
    obtain rfl := Option.some.inj H
    go_wp2
    go_ret
    exact ⟨by first | rfl | (simp; done) | (simp [*]; done), by repeat (first | exact Drawn0.refl _ | apply Drawn0.step)⟩
   rw [if_pos c2] at H
   have c2b0 : decide (x3_1 < (l0.length : Int)) = true := decide_eq_true c2
   clear c2
   by_cases c3 : 0 ≤ x3_1
   rotate_left
   ·rw [if_neg c3] at H
    exact absurd H (by simp)
   rw [if_pos c3] at H
   have c3b0 : decide (0 ≤ x3_1) = true := decide_eq_true c3
   clear c3
   replace H := Option.bind_eq_some_iff.mp H
   obtain ⟨t191, A40, H⟩ := H
   (try dsimp only at H)
   have A4 := aM A40
   clear A40
   by_cases c5 : t191 = true
   rotate_left
   ·replace c5 := Bool.eq_false_iff.mpr c5
    subst c5
    rw [if_neg (show ¬ (false = true) by decide)] at H
    (try dsimp only at H)
    obtain rfl := Option.some.inj H
    have p190 : 0 ≤ (x3_1 : Int) := of_decide_eq_true (by first | (with_reducible assumption) | assumption)
    have q190 : x3_1 < (l0.length : Int) := of_decide_eq_true (by first | (with_reducible assumption) | assumption)
    obtain ⟨ad190, e190, hx190_0⟩ := Kd.at_int HR0.out x3_1 p190 q190
    cases e190
    replace p190 := eq_true p190
    replace q190 := eq_true q190
    go_wp2_with (first | ((with_reducible refine gate_callee (f := 54) rfl ?_); refine gL (some 14) rfl rfl Try.func54 (by kernel_rfl) rfl #[.int .i64 (rd l0 x3_1), .int .i64 0, .int .i64 65535] rfl ?_; (with_reducible refine (spec_l1In.calls (rd l0 x3_1) 0 65535 false _ A4.out).mono ?_); rintro e w' ⟨rfl, ⟨nd, rfl⟩⟩; refine ⟨_, rfl, ?_⟩))
    go_ret
    exact ⟨by first | rfl | (simp; done) | (simp [*]; done), by repeat (first | exact Drawn0.refl _ | apply Drawn0.step)⟩
   subst c5
   rw [if_pos rfl] at H
   (try dsimp only at H)
   have H' := aM H
   clear H
   have p190 : 0 ≤ (x3_1 : Int) := of_decide_eq_true (by first | (with_reducible assumption) | assumption)
   have q190 : x3_1 < (l0.length : Int) := of_decide_eq_true (by first | (with_reducible assumption) | assumption)
   obtain ⟨ad190, e190, hx190_0⟩ := Kd.at_int HR0.out x3_1 p190 q190
   cases e190
   replace p190 := eq_true p190
   replace q190 := eq_true q190
   go_wp2_with (first | ((with_reducible refine gate_callee (f := 54) rfl ?_); refine gL (some 14) rfl rfl Try.func54 (by kernel_rfl) rfl #[.int .i64 (rd l0 x3_1), .int .i64 0, .int .i64 65535] rfl ?_; (with_reducible refine (spec_l1In.calls (rd l0 x3_1) 0 65535 true _ A4.out).mono ?_); rintro e w' ⟨rfl, ⟨nd, rfl⟩⟩; refine ⟨_, rfl, ?_⟩))
   go_roundg k1
   case measure => have := HK1.out; omega
   case rel => exact ⟨(wrap64 (x3_1 + 1)), (by first | rfl | (simp; done) | (simp [*]; done)), H', ⟨by have := HK1.out; omega⟩, by repeat (first | exact Drawn0.refl _ | apply Drawn0.step)⟩
/-! ### spec_l3Zero: function 55 -/
def spec_l3Zero.f (a0_0 : Int) (a0_1 : Int) (a0_2 : Int) (l0_3 : List Int) (l0_4 : List Bool) (a0_5 : Int) (a1 : Bool) (a2 : Bool) (a3 : Bool) (a4 : Bool) : Option (Bool) := if a1 = true then (if a2 = true then (if a3 = true then (if a4 = true then (some true) else (some (a0_5 == 0))) else (if (l0_4.length : Int) = 0 then (if a4 = true then (some true) else (some (a0_5 == 0))) else (some false))) else (if (l0_3.length : Int) = 0 then (if a3 = true then (if a4 = true then (some true) else (some (a0_5 == 0))) else (if (l0_4.length : Int) = 0 then (if a4 = true then (some true) else (some (a0_5 == 0))) else (some false))) else (some false))) else (if a0_2 = 0 then (if a2 = true then (if a3 = true then (if a4 = true then (some true) else (some (a0_5 == 0))) else (if (l0_4.length : Int) = 0 then (if a4 = true then (some true) else (some (a0_5 == 0))) else (some false))) else (if (l0_3.length : Int) = 0 then (if a3 = true then (if a4 = true then (some true) else (some (a0_5 == 0))) else (if (l0_4.length : Int) = 0 then (if a4 = true then (some true) else (some (a0_5 == 0))) else (some false))) else (some false))) else (some false))
set_option maxHeartbeats 8000000 in
set_option maxRecDepth 100000 in
theorem spec_l3Zero.calls (a0_0 : Int) (a0_1 : Int) (a0_2 : Int) (A0_3 : Option Addr) (c0_3 : Nat) (l0_3 : List Int) (A0_4 : Option Addr) (c0_4 : Nat) (l0_4 : List Bool) (a0_5 : Int) (a1 : Bool) (a2 : Bool) (a3 : Bool) (a4 : Bool) (r : Bool) (w : World) (hr0_3 : Kd.C (Kd.int .i64) w A0_3 l0_3.length l0_3) (hc0_3 : l0_3.length ≤ c0_3) (hr0_4 : Kd.C Kd.bool w A0_4 l0_4.length l0_4) (hc0_4 : l0_4.length ≤ c0_4) (h : spec_l3Zero.f a0_0 a0_1 a0_2 l0_3 l0_4 a0_5 a1 a2 a3 a4 = some r) :
  Calls Try.prog 55 #[.agg #[.int .i64 a0_0, .int .i64 a0_1, .int .i64 a0_2, .slice A0_3 l0_3.length c0_3, .slice A0_4 l0_4.length c0_4, .int .i64 a0_5], .bool a1, .bool a2, .bool a3, .bool a4] w fun e w' => e = .returned (.bool r) ∧ Below w.heap.size w w' := by
 have hu36 := Try.underlying36
 have HR0_3 := aM hr0_3
 have HC0_3 := aM hc0_3
 clear hr0_3 hc0_3
 have HR0_4 := aM hr0_4
 have HC0_4 := aM hc0_4
 clear hr0_4 hc0_4
 have HB := aM (Below.refl w.heap.size w)
 have H : (if a1 = true then (if a2 = true then (if a3 = true then (if a4 = true then (some true) else (some (a0_5 == 0))) else (if (l0_4.length : Int) = 0 then (if a4 = true then (some true) else (some (a0_5 == 0))) else (some false))) else (if (l0_3.length : Int) = 0 then (if a3 = true then (if a4 = true then (some true) else (some (a0_5 == 0))) else (if (l0_4.length : Int) = 0 then (if a4 = true then (some true) else (some (a0_5 == 0))) else (some false))) else (some false))) else (if a0_2 = 0 then (if a2 = true then (if a3 = true then (if a4 = true then (some true) else (some (a0_5 == 0))) else (if (l0_4.length : Int) = 0 then (if a4 = true then (some true) else (some (a0_5 == 0))) else (some false))) else (if (l0_3.length : Int) = 0 then (if a3 = true then (if a4 = true then (some true) else (some (a0_5 == 0))) else (if (l0_4.length : Int) = 0 then (if a4 = true then (some true) else (some (a0_5 == 0))) else (some false))) else (some false))) else (some false))) = some r := h
 clear h
 by_cases c6 : a1 = true
 rotate_left
 ·replace c6 := Bool.eq_false_iff.mpr c6
  subst c6
  rw [if_neg (show ¬ (false = true) by decide)] at H
  (try dsimp only at H)
  by_cases c38 : a0_2 = 0
  rotate_left
  ·rw [if_neg c38] at H
   have c38b0 : (a0_2 == 0) = false := beq_eq_false_iff_ne.mpr c38
   have c38b1 : (a0_2 != 0) = true := bne_iff_ne.mpr c38
   obtain rfl := Option.some.inj H
   go_enter Try.func55, Try.ntmps55
   go_wp2_with (first | ((with_reducible refine gate_dst (N := 5) rfl ?_); (try (refine gate_guard (by rfl) ?_; dsimp only)); refine box_event ?hg (N := 5) ?hd (cs := #[.int .i64 a0_0, .int .i64 a0_1, .int .i64 a0_2, .slice A0_3 l0_3.length c0_3, .slice A0_4 l0_4.length c0_4, .int .i64 a0_5]) (t := 36) ?hr ?_; (case hd => rfl); (case hg => rfl); (case hr => first | (go_simp; done) | (go_simp; rfl)); intro gb195 hg w71 hbox hb; have _ := aM (below_step (bS HB.out) hb); have _ := aM (hbox); have _ := aM (leG hg (bS HB.out)); have _ := aM (leG hg (bS HB.out)); clear HB; rename_i HB BK195 GW195 GE195; clear hb hbox hg; obtain ⟨hcz72_0, hfz72_0, hcz72_1, hfz72_1, hcz72_2, hfz72_2, hcz72_3, hfz72_3, hcz72_4, hfz72_4, hcz72_5, hfz72_5⟩ := bk6 BK195.out))
   go_ret
   exact ⟨by first | rfl | (simp [errW_none, errW_some] <;> rfl) | (simp [*, errW_none, errW_some] <;> rfl), bS HB.out⟩
  rw [if_pos c38] at H
  have c38b0 : (a0_2 == 0) = true := beq_iff_eq.mpr c38
  have c38b1 : (a0_2 != 0) = false := bne_eq_false_iff_eq.mpr c38
  clear c38
  by_cases c39 : a2 = true
  rotate_left
  ·replace c39 := Bool.eq_false_iff.mpr c39
   subst c39
   rw [if_neg (show ¬ (false = true) by decide)] at H
   (try dsimp only at H)
   by_cases c54 : (l0_3.length : Int) = 0
   rotate_left
   ·rw [if_neg c54] at H
    have c54b0 : ((l0_3.length : Int) == 0) = false := beq_eq_false_iff_ne.mpr c54
    have c54b1 : ((l0_3.length : Int) != 0) = true := bne_iff_ne.mpr c54
    have c54b2 : ¬ (l0_3 = []) := fun h_ => c54 (by rw [h_]; rfl)
    obtain rfl := Option.some.inj H
    go_enter Try.func55, Try.ntmps55
    go_wp2_with (first | ((with_reducible refine gate_dst (N := 5) rfl ?_); (try (refine gate_guard (by rfl) ?_; dsimp only)); refine box_event ?hg (N := 5) ?hd (cs := #[.int .i64 a0_0, .int .i64 a0_1, .int .i64 a0_2, .slice A0_3 l0_3.length c0_3, .slice A0_4 l0_4.length c0_4, .int .i64 a0_5]) (t := 36) ?hr ?_; (case hd => rfl); (case hg => rfl); (case hr => first | (go_simp; done) | (go_simp; rfl)); intro gb195 hg w69 hbox hb; have _ := aM (below_step (bS HB.out) hb); have _ := aM (hbox); have _ := aM (leG hg (bS HB.out)); have _ := aM (leG hg (bS HB.out)); clear HB; rename_i HB BK195 GW195 GE195; clear hb hbox hg; obtain ⟨hcz70_0, hfz70_0, hcz70_1, hfz70_1, hcz70_2, hfz70_2, hcz70_3, hfz70_3, hcz70_4, hfz70_4, hcz70_5, hfz70_5⟩ := bk6 BK195.out))
    go_ret
    exact ⟨by first | rfl | (simp [errW_none, errW_some] <;> rfl) | (simp [*, errW_none, errW_some] <;> rfl), bS HB.out⟩
   rw [if_pos c54] at H
   have c54b0 : ((l0_3.length : Int) == 0) = true := beq_iff_eq.mpr c54
   have c54b1 : ((l0_3.length : Int) != 0) = false := bne_eq_false_iff_eq.mpr c54
   clear c54
   by_cases c55 : a3 = true
   rotate_left
   ·replace c55 := Bool.eq_false_iff.mpr c55
    subst c55
    rw [if_neg (show ¬ (false = true) by decide)] at H
    (try dsimp only at H)
    by_cases c61 : (l0_4.length : Int) = 0
    rotate_left
    ·rw [if_neg c61] at H
     have c61b0 : ((l0_4.length : Int) == 0) = false := beq_eq_false_iff_ne.mpr c61
     have c61b1 : ((l0_4.length : Int) != 0) = true := bne_iff_ne.mpr c61
     have c61b2 : ¬ (l0_4 = []) := fun h_ => c61 (by rw [h_]; rfl)
     obtain rfl := Option.some.inj H
     go_enter Try.func55, Try.ntmps55
     go_wp2_with (first | ((with_reducible refine gate_dst (N := 5) rfl ?_); (try (refine gate_guard (by rfl) ?_; dsimp only)); refine box_event ?hg (N := 5) ?hd (cs := #[.int .i64 a0_0, .int .i64 a0_1, .int .i64 a0_2, .slice A0_3 l0_3.length c0_3, .slice A0_4 l0_4.length c0_4, .int .i64 a0_5]) (t := 36) ?hr ?_; (case hd => rfl); (case hg => rfl); (case hr => first | (go_simp; done) | (go_simp; rfl)); intro gb195 hg w67 hbox hb; have _ := aM (below_step (bS HB.out) hb); have _ := aM (hbox); have _ := aM (leG hg (bS HB.out)); have _ := aM (leG hg (bS HB.out)); clear HB; rename_i HB BK195 GW195 GE195; clear hb hbox hg; obtain ⟨hcz68_0, hfz68_0, hcz68_1, hfz68_1, hcz68_2, hfz68_2, hcz68_3, hfz68_3, hcz68_4, hfz68_4, hcz68_5, hfz68_5⟩ := bk6 BK195.out))
     go_ret
     exact ⟨by first | rfl | (simp [errW_none, errW_some] <;> rfl) | (simp [*, errW_none, errW_some] <;> rfl), bS HB.out⟩
    rw [if_pos c61] at H
    have c61b0 : ((l0_4.length : Int) == 0) = true := beq_iff_eq.mpr c61
    have c61b1 : ((l0_4.length : Int) != 0) = false := bne_eq_false_iff_eq.mpr c61
    clear c61
    by_cases c62 : a4 = true
    rotate_left
    ·replace c62 := Bool.eq_false_iff.mpr c62
     subst c62
     rw [if_neg (show ¬ (false = true) by decide)] at H
     (try dsimp only at H)
     obtain rfl := Option.some.inj H
     go_enter Try.func55, Try.ntmps55
     go_wp2_with (first | ((with_reducible refine gate_dst (N := 5) rfl ?_); (try (refine gate_guard (by rfl) ?_; dsimp only)); refine box_event ?hg (N := 5) ?hd (cs := #[.int .i64 a0_0, .int .i64 a0_1, .int .i64 a0_2, .slice A0_3 l0_3.length c0_3, .slice A0_4 l0_4.length c0_4, .int .i64 a0_5]) (t := 36) ?hr ?_; (case hd => rfl); (case hg => rfl); (case hr => first | (go_simp; done) | (go_simp; rfl)); intro gb195 hg w65 hbox hb; have _ := aM (below_step (bS HB.out) hb); have _ := aM (hbox); have _ := aM (leG hg (bS HB.out)); have _ := aM (leG hg (bS HB.out)); clear HB; rename_i HB BK195 GW195 GE195; clear hb hbox hg; obtain ⟨hcz66_0, hfz66_0, hcz66_1, hfz66_1, hcz66_2, hfz66_2, hcz66_3, hfz66_3, hcz66_4, hfz66_4, hcz66_5, hfz66_5⟩ := bk6 BK195.out))
     go_ret
     exact ⟨by first | rfl | (simp [errW_none, errW_some] <;> rfl) | (simp [*, errW_none, errW_some] <;> rfl), bS HB.out⟩
    subst c62
    rw [if_pos rfl] at H
    (try dsimp only at H)
    obtain rfl := Option.some.inj H
    go_enter Try.func55, Try.ntmps55
    go_wp2_with (first | ((with_reducible refine gate_dst (N := 5) rfl ?_); (try (refine gate_guard (by rfl) ?_; dsimp only)); refine box_event ?hg (N := 5) ?hd (cs := #[.int .i64 a0_0, .int .i64 a0_1, .int .i64 a0_2, .slice A0_3 l0_3.length c0_3, .slice A0_4 l0_4.length c0_4, .int .i64 a0_5]) (t := 36) ?hr ?_; (case hd => rfl); (case hg => rfl); (case hr => first | (go_simp; done) | (go_simp; rfl)); intro gb195 hg w63 hbox hb; have _ := aM (below_step (bS HB.out) hb); have _ := aM (hbox); have _ := aM (leG hg (bS HB.out)); have _ := aM (leG hg (bS HB.out)); clear HB; rename_i HB BK195 GW195 GE195; clear hb hbox hg; obtain ⟨hcz64_0, hfz64_0, hcz64_1, hfz64_1, hcz64_2, hfz64_2, hcz64_3, hfz64_3, hcz64_4, hfz64_4, hcz64_5, hfz64_5⟩ := bk6 BK195.out))
    go_ret
    exact ⟨by first | rfl | (simp [errW_none, errW_some] <;> rfl) | (simp [*, errW_none, errW_some] <;> rfl), bS HB.out⟩
   subst c55
   rw [if_pos rfl] at H
   (try dsimp only at H)
   by_cases c56 : a4 = true
   rotate_left
   ·replace c56 := Bool.eq_false_iff.mpr c56
    subst c56
    rw [if_neg (show ¬ (false = true) by decide)] at H
    (try dsimp only at H)
    obtain rfl := Option.some.inj H
    go_enter Try.func55, Try.ntmps55
    go_wp2_with (first | ((with_reducible refine gate_dst (N := 5) rfl ?_); (try (refine gate_guard (by rfl) ?_; dsimp only)); refine box_event ?hg (N := 5) ?hd (cs := #[.int .i64 a0_0, .int .i64 a0_1, .int .i64 a0_2, .slice A0_3 l0_3.length c0_3, .slice A0_4 l0_4.length c0_4, .int .i64 a0_5]) (t := 36) ?hr ?_; (case hd => rfl); (case hg => rfl); (case hr => first | (go_simp; done) | (go_simp; rfl)); intro gb195 hg w59 hbox hb; have _ := aM (below_step (bS HB.out) hb); have _ := aM (hbox); have _ := aM (leG hg (bS HB.out)); have _ := aM (leG hg (bS HB.out)); clear HB; rename_i HB BK195 GW195 GE195; clear hb hbox hg; obtain ⟨hcz60_0, hfz60_0, hcz60_1, hfz60_1, hcz60_2, hfz60_2, hcz60_3, hfz60_3, hcz60_4, hfz60_4, hcz60_5, hfz60_5⟩ := bk6 BK195.out))
    go_ret
    exact ⟨by first | rfl | (simp [errW_none, errW_some] <;> rfl) | (simp [*, errW_none, errW_some] <;> rfl), bS HB.out⟩
   subst c56
   rw [if_pos rfl] at H
   (try dsimp only at H)
   obtain rfl := Option.some.inj H
   go_enter Try.func55, Try.ntmps55
   go_wp2_with (first | ((with_reducible refine gate_dst (N := 5) rfl ?_); (try (refine gate_guard (by rfl) ?_; dsimp only)); refine box_event ?hg (N := 5) ?hd (cs := #[.int .i64 a0_0, .int .i64 a0_1, .int .i64 a0_2, .slice A0_3 l0_3.length c0_3, .slice A0_4 l0_4.length c0_4, .int .i64 a0_5]) (t := 36) ?hr ?_; (case hd => rfl); (case hg => rfl); (case hr => first | (go_simp; done) | (go_simp; rfl)); intro gb195 hg w57 hbox hb; have _ := aM (below_step (bS HB.out) hb); have _ := aM (hbox); have _ := aM (leG hg (bS HB.out)); have _ := aM (leG hg (bS HB.out)); clear HB; rename_i HB BK195 GW195 GE195; clear hb hbox hg; obtain ⟨hcz58_0, hfz58_0, hcz58_1, hfz58_1, hcz58_2, hfz58_2, hcz58_3, hfz58_3, hcz58_4, hfz58_4, hcz58_5, hfz58_5⟩ := bk6 BK195.out))
   go_ret
   exact ⟨by first | rfl | (simp [errW_none, errW_some] <;> rfl) | (simp [*, errW_none, errW_some] <;> rfl), bS HB.out⟩
  subst c39
  rw [if_pos rfl] at H
  (try dsimp only at H)
  by_cases c40 : a3 = true
  rotate_left
  ·replace c40 := Bool.eq_false_iff.mpr c40
   subst c40
   rw [if_neg (show ¬ (false = true) by decide)] at H
   (try dsimp only at H)
   by_cases c46 : (l0_4.length : Int) = 0
   rotate_left
   ·rw [if_neg c46] at H
    have c46b0 : ((l0_4.length : Int) == 0) = false := beq_eq_false_iff_ne.mpr c46
    have c46b1 : ((l0_4.length : Int) != 0) = true := bne_iff_ne.mpr c46
    have c46b2 : ¬ (l0_4 = []) := fun h_ => c46 (by rw [h_]; rfl)
    obtain rfl := Option.some.inj H
    go_enter Try.func55, Try.ntmps55
    go_wp2_with (first | ((with_reducible refine gate_dst (N := 5) rfl ?_); (try (refine gate_guard (by rfl) ?_; dsimp only)); refine box_event ?hg (N := 5) ?hd (cs := #[.int .i64 a0_0, .int .i64 a0_1, .int .i64 a0_2, .slice A0_3 l0_3.length c0_3, .slice A0_4 l0_4.length c0_4, .int .i64 a0_5]) (t := 36) ?hr ?_; (case hd => rfl); (case hg => rfl); (case hr => first | (go_simp; done) | (go_simp; rfl)); intro gb195 hg w52 hbox hb; have _ := aM (below_step (bS HB.out) hb); have _ := aM (hbox); have _ := aM (leG hg (bS HB.out)); have _ := aM (leG hg (bS HB.out)); clear HB; rename_i HB BK195 GW195 GE195; clear hb hbox hg; obtain ⟨hcz53_0, hfz53_0, hcz53_1, hfz53_1, hcz53_2, hfz53_2, hcz53_3, hfz53_3, hcz53_4, hfz53_4, hcz53_5, hfz53_5⟩ := bk6 BK195.out))
    go_ret
    exact ⟨by first | rfl | (simp [errW_none, errW_some] <;> rfl) | (simp [*, errW_none, errW_some] <;> rfl), bS HB.out⟩
   rw [if_pos c46] at H
   have c46b0 : ((l0_4.length : Int) == 0) = true := beq_iff_eq.mpr c46
   have c46b1 : ((l0_4.length : Int) != 0) = false := bne_eq_false_iff_eq.mpr c46
   clear c46
   by_cases c47 : a4 = true
   rotate_left
   ·replace c47 := Bool.eq_false_iff.mpr c47
    subst c47
    rw [if_neg (show ¬ (false = true) by decide)] at H
    (try dsimp only at H)
    obtain rfl := Option.some.inj H
    go_enter Try.func55, Try.ntmps55
    go_wp2_with (first | ((with_reducible refine gate_dst (N := 5) rfl ?_); (try (refine gate_guard (by rfl) ?_; dsimp only)); refine box_event ?hg (N := 5) ?hd (cs := #[.int .i64 a0_0, .int .i64 a0_1, .int .i64 a0_2, .slice A0_3 l0_3.length c0_3, .slice A0_4 l0_4.length c0_4, .int .i64 a0_5]) (t := 36) ?hr ?_; (case hd => rfl); (case hg => rfl); (case hr => first | (go_simp; done) | (go_simp; rfl)); intro gb195 hg w50 hbox hb; have _ := aM (below_step (bS HB.out) hb); have _ := aM (hbox); have _ := aM (leG hg (bS HB.out)); have _ := aM (leG hg (bS HB.out)); clear HB; rename_i HB BK195 GW195 GE195; clear hb hbox hg; obtain ⟨hcz51_0, hfz51_0, hcz51_1, hfz51_1, hcz51_2, hfz51_2, hcz51_3, hfz51_3, hcz51_4, hfz51_4, hcz51_5, hfz51_5⟩ := bk6 BK195.out))
    go_ret
    exact ⟨by first | rfl | (simp [errW_none, errW_some] <;> rfl) | (simp [*, errW_none, errW_some] <;> rfl), bS HB.out⟩
   subst c47
   rw [if_pos rfl] at H
   (try dsimp only at H)
   obtain rfl := Option.some.inj H
   go_enter Try.func55, Try.ntmps55
   go_wp2_with (first | ((with_reducible refine gate_dst (N := 5) rfl ?_); (try (refine gate_guard (by rfl) ?_; dsimp only)); refine box_event ?hg (N := 5) ?hd (cs := #[.int .i64 a0_0, .int .i64 a0_1, .int .i64 a0_2, .slice A0_3 l0_3.length c0_3, .slice A0_4 l0_4.length c0_4, .int .i64 a0_5]) (t := 36) ?hr ?_; (case hd => rfl); (case hg => rfl); (case hr => first | (go_simp; done) | (go_simp; rfl)); intro gb195 hg w48 hbox hb; have _ := aM (below_step (bS HB.out) hb); have _ := aM (hbox); have _ := aM (leG hg (bS HB.out)); have _ := aM (leG hg (bS HB.out)); clear HB; rename_i HB BK195 GW195 GE195; clear hb hbox hg; obtain ⟨hcz49_0, hfz49_0, hcz49_1, hfz49_1, hcz49_2, hfz49_2, hcz49_3, hfz49_3, hcz49_4, hfz49_4, hcz49_5, hfz49_5⟩ := bk6 BK195.out))
   go_ret
   exact ⟨by first | rfl | (simp [errW_none, errW_some] <;> rfl) | (simp [*, errW_none, errW_some] <;> rfl), bS HB.out⟩
  subst c40
  rw [if_pos rfl] at H
  (try dsimp only at H)
  by_cases c41 : a4 = true
  rotate_left
  ·replace c41 := Bool.eq_false_iff.mpr c41
   subst c41
   rw [if_neg (show ¬ (false = true) by decide)] at H
   (try dsimp only at H)
   obtain rfl := Option.some.inj H
   go_enter Try.func55, Try.ntmps55
   go_wp2_with (first | ((with_reducible refine gate_dst (N := 5) rfl ?_); (try (refine gate_guard (by rfl) ?_; dsimp only)); refine box_event ?hg (N := 5) ?hd (cs := #[.int .i64 a0_0, .int .i64 a0_1, .int .i64 a0_2, .slice A0_3 l0_3.length c0_3, .slice A0_4 l0_4.length c0_4, .int .i64 a0_5]) (t := 36) ?hr ?_; (case hd => rfl); (case hg => rfl); (case hr => first | (go_simp; done) | (go_simp; rfl)); intro gb195 hg w44 hbox hb; have _ := aM (below_step (bS HB.out) hb); have _ := aM (hbox); have _ := aM (leG hg (bS HB.out)); have _ := aM (leG hg (bS HB.out)); clear HB; rename_i HB BK195 GW195 GE195; clear hb hbox hg; obtain ⟨hcz45_0, hfz45_0, hcz45_1, hfz45_1, hcz45_2, hfz45_2, hcz45_3, hfz45_3, hcz45_4, hfz45_4, hcz45_5, hfz45_5⟩ := bk6 BK195.out))
   go_ret
   exact ⟨by first | rfl | (simp [errW_none, errW_some] <;> rfl) | (simp [*, errW_none, errW_some] <;> rfl), bS HB.out⟩
  subst c41
  rw [if_pos rfl] at H
  (try dsimp only at H)
  obtain rfl := Option.some.inj H
  go_enter Try.func55, Try.ntmps55
  go_wp2_with (first | ((with_reducible refine gate_dst (N := 5) rfl ?_); (try (refine gate_guard (by rfl) ?_; dsimp only)); refine box_event ?hg (N := 5) ?hd (cs := #[.int .i64 a0_0, .int .i64 a0_1, .int .i64 a0_2, .slice A0_3 l0_3.length c0_3, .slice A0_4 l0_4.length c0_4, .int .i64 a0_5]) (t := 36) ?hr ?_; (case hd => rfl); (case hg => rfl); (case hr => first | (go_simp; done) | (go_simp; rfl)); intro gb195 hg w42 hbox hb; have _ := aM (below_step (bS HB.out) hb); have _ := aM (hbox); have _ := aM (leG hg (bS HB.out)); have _ := aM (leG hg (bS HB.out)); clear HB; rename_i HB BK195 GW195 GE195; clear hb hbox hg; obtain ⟨hcz43_0, hfz43_0, hcz43_1, hfz43_1, hcz43_2, hfz43_2, hcz43_3, hfz43_3, hcz43_4, hfz43_4, hcz43_5, hfz43_5⟩ := bk6 BK195.out))
  go_ret
  exact ⟨by first | rfl | (simp [errW_none, errW_some] <;> rfl) | (simp [*, errW_none, errW_some] <;> rfl), bS HB.out⟩
 subst c6
 rw [if_pos rfl] at H
 (try dsimp only at H)
 by_cases c7 : a2 = true
 rotate_left
 ·replace c7 := Bool.eq_false_iff.mpr c7
  subst c7
  rw [if_neg (show ¬ (false = true) by decide)] at H
  (try dsimp only at H)
  by_cases c21 : (l0_3.length : Int) = 0
  rotate_left
  ·rw [if_neg c21] at H
   have c21b0 : ((l0_3.length : Int) == 0) = false := beq_eq_false_iff_ne.mpr c21
   have c21b1 : ((l0_3.length : Int) != 0) = true := bne_iff_ne.mpr c21
   have c21b2 : ¬ (l0_3 = []) := fun h_ => c21 (by rw [h_]; rfl)
   obtain rfl := Option.some.inj H
   go_enter Try.func55, Try.ntmps55
   go_wp2_with (first | ((with_reducible refine gate_dst (N := 5) rfl ?_); (try (refine gate_guard (by rfl) ?_; dsimp only)); refine box_event ?hg (N := 5) ?hd (cs := #[.int .i64 a0_0, .int .i64 a0_1, .int .i64 a0_2, .slice A0_3 l0_3.length c0_3, .slice A0_4 l0_4.length c0_4, .int .i64 a0_5]) (t := 36) ?hr ?_; (case hd => rfl); (case hg => rfl); (case hr => first | (go_simp; done) | (go_simp; rfl)); intro gb195 hg w36 hbox hb; have _ := aM (below_step (bS HB.out) hb); have _ := aM (hbox); have _ := aM (leG hg (bS HB.out)); have _ := aM (leG hg (bS HB.out)); clear HB; rename_i HB BK195 GW195 GE195; clear hb hbox hg; obtain ⟨hcz37_0, hfz37_0, hcz37_1, hfz37_1, hcz37_2, hfz37_2, hcz37_3, hfz37_3, hcz37_4, hfz37_4, hcz37_5, hfz37_5⟩ := bk6 BK195.out))
   go_ret
   exact ⟨by first | rfl | (simp [errW_none, errW_some] <;> rfl) | (simp [*, errW_none, errW_some] <;> rfl), bS HB.out⟩
  rw [if_pos c21] at H
  have c21b0 : ((l0_3.length : Int) == 0) = true := beq_iff_eq.mpr c21
  have c21b1 : ((l0_3.length : Int) != 0) = false := bne_eq_false_iff_eq.mpr c21
  clear c21
  by_cases c22 : a3 = true
  rotate_left
  ·replace c22 := Bool.eq_false_iff.mpr c22
   subst c22
   rw [if_neg (show ¬ (false = true) by decide)] at H
   (try dsimp only at H)
   by_cases c28 : (l0_4.length : Int) = 0
   rotate_left
   ·rw [if_neg c28] at H
    have c28b0 : ((l0_4.length : Int) == 0) = false := beq_eq_false_iff_ne.mpr c28
    have c28b1 : ((l0_4.length : Int) != 0) = true := bne_iff_ne.mpr c28
    have c28b2 : ¬ (l0_4 = []) := fun h_ => c28 (by rw [h_]; rfl)
    obtain rfl := Option.some.inj H
    go_enter Try.func55, Try.ntmps55
    go_wp2_with (first | ((with_reducible refine gate_dst (N := 5) rfl ?_); (try (refine gate_guard (by rfl) ?_; dsimp only)); refine box_event ?hg (N := 5) ?hd (cs := #[.int .i64 a0_0, .int .i64 a0_1, .int .i64 a0_2, .slice A0_3 l0_3.length c0_3, .slice A0_4 l0_4.length c0_4, .int .i64 a0_5]) (t := 36) ?hr ?_; (case hd => rfl); (case hg => rfl); (case hr => first | (go_simp; done) | (go_simp; rfl)); intro gb195 hg w34 hbox hb; have _ := aM (below_step (bS HB.out) hb); have _ := aM (hbox); have _ := aM (leG hg (bS HB.out)); have _ := aM (leG hg (bS HB.out)); clear HB; rename_i HB BK195 GW195 GE195; clear hb hbox hg; obtain ⟨hcz35_0, hfz35_0, hcz35_1, hfz35_1, hcz35_2, hfz35_2, hcz35_3, hfz35_3, hcz35_4, hfz35_4, hcz35_5, hfz35_5⟩ := bk6 BK195.out))
    go_ret
    exact ⟨by first | rfl | (simp [errW_none, errW_some] <;> rfl) | (simp [*, errW_none, errW_some] <;> rfl), bS HB.out⟩
   rw [if_pos c28] at H
   have c28b0 : ((l0_4.length : Int) == 0) = true := beq_iff_eq.mpr c28
   have c28b1 : ((l0_4.length : Int) != 0) = false := bne_eq_false_iff_eq.mpr c28
   clear c28
   by_cases c29 : a4 = true
   rotate_left
   ·replace c29 := Bool.eq_false_iff.mpr c29
    subst c29
    rw [if_neg (show ¬ (false = true) by decide)] at H
    (try dsimp only at H)
    obtain rfl := Option.some.inj H
    go_enter Try.func55, Try.ntmps55
    go_wp2_with (first | ((with_reducible refine gate_dst (N := 5) rfl ?_); (try (refine gate_guard (by rfl) ?_; dsimp only)); refine box_event ?hg (N := 5) ?hd (cs := #[.int .i64 a0_0, .int .i64 a0_1, .int .i64 a0_2, .slice A0_3 l0_3.length c0_3, .slice A0_4 l0_4.length c0_4, .int .i64 a0_5]) (t := 36) ?hr ?_; (case hd => rfl); (case hg => rfl); (case hr => first | (go_simp; done) | (go_simp; rfl)); intro gb195 hg w32 hbox hb; have _ := aM (below_step (bS HB.out) hb); have _ := aM (hbox); have _ := aM (leG hg (bS HB.out)); have _ := aM (leG hg (bS HB.out)); clear HB; rename_i HB BK195 GW195 GE195; clear hb hbox hg; obtain ⟨hcz33_0, hfz33_0, hcz33_1, hfz33_1, hcz33_2, hfz33_2, hcz33_3, hfz33_3, hcz33_4, hfz33_4, hcz33_5, hfz33_5⟩ := bk6 BK195.out))
    go_ret
    exact ⟨by first | rfl | (simp [errW_none, errW_some] <;> rfl) | (simp [*, errW_none, errW_some] <;> rfl), bS HB.out⟩
   subst c29
   rw [if_pos rfl] at H
   (try dsimp only at H)
   obtain rfl := Option.some.inj H
   go_enter Try.func55, Try.ntmps55
   go_wp2_with (first | ((with_reducible refine gate_dst (N := 5) rfl ?_); (try (refine gate_guard (by rfl) ?_; dsimp only)); refine box_event ?hg (N := 5) ?hd (cs := #[.int .i64 a0_0, .int .i64 a0_1, .int .i64 a0_2, .slice A0_3 l0_3.length c0_3, .slice A0_4 l0_4.length c0_4, .int .i64 a0_5]) (t := 36) ?hr ?_; (case hd => rfl); (case hg => rfl); (case hr => first | (go_simp; done) | (go_simp; rfl)); intro gb195 hg w30 hbox hb; have _ := aM (below_step (bS HB.out) hb); have _ := aM (hbox); have _ := aM (leG hg (bS HB.out)); have _ := aM (leG hg (bS HB.out)); clear HB; rename_i HB BK195 GW195 GE195; clear hb hbox hg; obtain ⟨hcz31_0, hfz31_0, hcz31_1, hfz31_1, hcz31_2, hfz31_2, hcz31_3, hfz31_3, hcz31_4, hfz31_4, hcz31_5, hfz31_5⟩ := bk6 BK195.out))
   go_ret
   exact ⟨by first | rfl | (simp [errW_none, errW_some] <;> rfl) | (simp [*, errW_none, errW_some] <;> rfl), bS HB.out⟩
  subst c22
  rw [if_pos rfl] at H
  (try dsimp only at H)
  by_cases c23 : a4 = true
  rotate_left
  ·replace c23 := Bool.eq_false_iff.mpr c23
   subst c23
   rw [if_neg (show ¬ (false = true) by decide)] at H
   (try dsimp only at H)
   obtain rfl := Option.some.inj H
   go_enter Try.func55, Try.ntmps55
   go_wp2_with (first | ((with_reducible refine gate_dst (N := 5) rfl ?_); (try (refine gate_guard (by rfl) ?_; dsimp only)); refine box_event ?hg (N := 5) ?hd (cs := #[.int .i64 a0_0, .int .i64 a0_1, .int .i64 a0_2, .slice A0_3 l0_3.length c0_3, .slice A0_4 l0_4.length c0_4, .int .i64 a0_5]) (t := 36) ?hr ?_; (case hd => rfl); (case hg => rfl); (case hr => first | (go_simp; done) | (go_simp; rfl)); intro gb195 hg w26 hbox hb; have _ := aM (below_step (bS HB.out) hb); have _ := aM (hbox); have _ := aM (leG hg (bS HB.out)); have _ := aM (leG hg (bS HB.out)); clear HB; rename_i HB BK195 GW195 GE195; clear hb hbox hg; obtain ⟨hcz27_0, hfz27_0, hcz27_1, hfz27_1, hcz27_2, hfz27_2, hcz27_3, hfz27_3, hcz27_4, hfz27_4, hcz27_5, hfz27_5⟩ := bk6 BK195.out))
   go_ret
   exact ⟨by first | rfl | (simp [errW_none, errW_some] <;> rfl) | (simp [*, errW_none, errW_some] <;> rfl), bS HB.out⟩
  subst c23
  rw [if_pos rfl] at H
  (try dsimp only at H)
  obtain rfl := Option.some.inj H
  go_enter Try.func55, Try.ntmps55
  go_wp2_with (first | ((with_reducible refine gate_dst (N := 5) rfl ?_); (try (refine gate_guard (by rfl) ?_; dsimp only)); refine box_event ?hg (N := 5) ?hd (cs := #[.int .i64 a0_0, .int .i64 a0_1, .int .i64 a0_2, .slice A0_3 l0_3.length c0_3, .slice A0_4 l0_4.length c0_4, .int .i64 a0_5]) (t := 36) ?hr ?_; (case hd => rfl); (case hg => rfl); (case hr => first | (go_simp; done) | (go_simp; rfl)); intro gb195 hg w24 hbox hb; have _ := aM (below_step (bS HB.out) hb); have _ := aM (hbox); have _ := aM (leG hg (bS HB.out)); have _ := aM (leG hg (bS HB.out)); clear HB; rename_i HB BK195 GW195 GE195; clear hb hbox hg; obtain ⟨hcz25_0, hfz25_0, hcz25_1, hfz25_1, hcz25_2, hfz25_2, hcz25_3, hfz25_3, hcz25_4, hfz25_4, hcz25_5, hfz25_5⟩ := bk6 BK195.out))
  go_ret
  exact ⟨by first | rfl | (simp [errW_none, errW_some] <;> rfl) | (simp [*, errW_none, errW_some] <;> rfl), bS HB.out⟩
 subst c7
 rw [if_pos rfl] at H
 (try dsimp only at H)
 by_cases c8 : a3 = true
 rotate_left
 ·replace c8 := Bool.eq_false_iff.mpr c8
  subst c8
  rw [if_neg (show ¬ (false = true) by decide)] at H
  (try dsimp only at H)
  by_cases c13 : (l0_4.length : Int) = 0
  rotate_left
  ·rw [if_neg c13] at H
   have c13b0 : ((l0_4.length : Int) == 0) = false := beq_eq_false_iff_ne.mpr c13
   have c13b1 : ((l0_4.length : Int) != 0) = true := bne_iff_ne.mpr c13
   have c13b2 : ¬ (l0_4 = []) := fun h_ => c13 (by rw [h_]; rfl)
   obtain rfl := Option.some.inj H
   go_enter Try.func55, Try.ntmps55
   go_wp2_with (first | ((with_reducible refine gate_dst (N := 5) rfl ?_); (try (refine gate_guard (by rfl) ?_; dsimp only)); refine box_event ?hg (N := 5) ?hd (cs := #[.int .i64 a0_0, .int .i64 a0_1, .int .i64 a0_2, .slice A0_3 l0_3.length c0_3, .slice A0_4 l0_4.length c0_4, .int .i64 a0_5]) (t := 36) ?hr ?_; (case hd => rfl); (case hg => rfl); (case hr => first | (go_simp; done) | (go_simp; rfl)); intro gb195 hg w19 hbox hb; have _ := aM (below_step (bS HB.out) hb); have _ := aM (hbox); have _ := aM (leG hg (bS HB.out)); have _ := aM (leG hg (bS HB.out)); clear HB; rename_i HB BK195 GW195 GE195; clear hb hbox hg; obtain ⟨hcz20_0, hfz20_0, hcz20_1, hfz20_1, hcz20_2, hfz20_2, hcz20_3, hfz20_3, hcz20_4, hfz20_4, hcz20_5, hfz20_5⟩ := bk6 BK195.out))
   go_ret
   exact ⟨by first | rfl | (simp [errW_none, errW_some] <;> rfl) | (simp [*, errW_none, errW_some] <;> rfl), bS HB.out⟩
  rw [if_pos c13] at H
  have c13b0 : ((l0_4.length : Int) == 0) = true := beq_iff_eq.mpr c13
  have c13b1 : ((l0_4.length : Int) != 0) = false := bne_eq_false_iff_eq.mpr c13
  clear c13
  by_cases c14 : a4 = true
  rotate_left
  ·replace c14 := Bool.eq_false_iff.mpr c14
   subst c14
   rw [if_neg (show ¬ (false = true) by decide)] at H
   (try dsimp only at H)
   obtain rfl := Option.some.inj H
   go_enter Try.func55, Try.ntmps55
   go_wp2_with (first | ((with_reducible refine gate_dst (N := 5) rfl ?_); (try (refine gate_guard (by rfl) ?_; dsimp only)); refine box_event ?hg (N := 5) ?hd (cs := #[.int .i64 a0_0, .int .i64 a0_1, .int .i64 a0_2, .slice A0_3 l0_3.length c0_3, .slice A0_4 l0_4.length c0_4, .int .i64 a0_5]) (t := 36) ?hr ?_; (case hd => rfl); (case hg => rfl); (case hr => first | (go_simp; done) | (go_simp; rfl)); intro gb195 hg w17 hbox hb; have _ := aM (below_step (bS HB.out) hb); have _ := aM (hbox); have _ := aM (leG hg (bS HB.out)); have _ := aM (leG hg (bS HB.out)); clear HB; rename_i HB BK195 GW195 GE195; clear hb hbox hg; obtain ⟨hcz18_0, hfz18_0, hcz18_1, hfz18_1, hcz18_2, hfz18_2, hcz18_3, hfz18_3, hcz18_4, hfz18_4, hcz18_5, hfz18_5⟩ := bk6 BK195.out))
   go_ret
   exact ⟨by first | rfl | (simp [errW_none, errW_some] <;> rfl) | (simp [*, errW_none, errW_some] <;> rfl), bS HB.out⟩
  subst c14
  rw [if_pos rfl] at H
  (try dsimp only at H)
  obtain rfl := Option.some.inj H
  go_enter Try.func55, Try.ntmps55
  go_wp2_with (first | ((with_reducible refine gate_dst (N := 5) rfl ?_); (try (refine gate_guard (by rfl) ?_; dsimp only)); refine box_event ?hg (N := 5) ?hd (cs := #[.int .i64 a0_0, .int .i64 a0_1, .int .i64 a0_2, .slice A0_3 l0_3.length c0_3, .slice A0_4 l0_4.length c0_4, .int .i64 a0_5]) (t := 36) ?hr ?_; (case hd => rfl); (case hg => rfl); (case hr => first | (go_simp; done) | (go_simp; rfl)); intro gb195 hg w15 hbox hb; have _ := aM (below_step (bS HB.out) hb); have _ := aM (hbox); have _ := aM (leG hg (bS HB.out)); have _ := aM (leG hg (bS HB.out)); clear HB; rename_i HB BK195 GW195 GE195; clear hb hbox hg; obtain ⟨hcz16_0, hfz16_0, hcz16_1, hfz16_1, hcz16_2, hfz16_2, hcz16_3, hfz16_3, hcz16_4, hfz16_4, hcz16_5, hfz16_5⟩ := bk6 BK195.out))
  go_ret
  exact ⟨by first | rfl | (simp [errW_none, errW_some] <;> rfl) | (simp [*, errW_none, errW_some] <;> rfl), bS HB.out⟩
 subst c8
 rw [if_pos rfl] at H
 (try dsimp only at H)
 by_cases c9 : a4 = true
 rotate_left
 ·replace c9 := Bool.eq_false_iff.mpr c9
  subst c9
  rw [if_neg (show ¬ (false = true) by decide)] at H
  (try dsimp only at H)
  obtain rfl := Option.some.inj H
  go_enter Try.func55, Try.ntmps55
  go_wp2_with (first | ((with_reducible refine gate_dst (N := 5) rfl ?_); (try (refine gate_guard (by rfl) ?_; dsimp only)); refine box_event ?hg (N := 5) ?hd (cs := #[.int .i64 a0_0, .int .i64 a0_1, .int .i64 a0_2, .slice A0_3 l0_3.length c0_3, .slice A0_4 l0_4.length c0_4, .int .i64 a0_5]) (t := 36) ?hr ?_; (case hd => rfl); (case hg => rfl); (case hr => first | (go_simp; done) | (go_simp; rfl)); intro gb195 hg w11 hbox hb; have _ := aM (below_step (bS HB.out) hb); have _ := aM (hbox); have _ := aM (leG hg (bS HB.out)); have _ := aM (leG hg (bS HB.out)); clear HB; rename_i HB BK195 GW195 GE195; clear hb hbox hg; obtain ⟨hcz12_0, hfz12_0, hcz12_1, hfz12_1, hcz12_2, hfz12_2, hcz12_3, hfz12_3, hcz12_4, hfz12_4, hcz12_5, hfz12_5⟩ := bk6 BK195.out))
  go_ret
  exact ⟨by first | rfl | (simp [errW_none, errW_some] <;> rfl) | (simp [*, errW_none, errW_some] <;> rfl), bS HB.out⟩
 subst c9
 rw [if_pos rfl] at H
 (try dsimp only at H)
 obtain rfl := Option.some.inj H
 go_enter Try.func55, Try.ntmps55
 go_wp2_with (first | ((with_reducible refine gate_dst (N := 5) rfl ?_); (try (refine gate_guard (by rfl) ?_; dsimp only)); refine box_event ?hg (N := 5) ?hd (cs := #[.int .i64 a0_0, .int .i64 a0_1, .int .i64 a0_2, .slice A0_3 l0_3.length c0_3, .slice A0_4 l0_4.length c0_4, .int .i64 a0_5]) (t := 36) ?hr ?_; (case hd => rfl); (case hg => rfl); (case hr => first | (go_simp; done) | (go_simp; rfl)); intro gb195 hg w10 hbox hb; have _ := aM (below_step (bS HB.out) hb); have _ := aM (hbox); have _ := aM (leG hg (bS HB.out)); have _ := aM (leG hg (bS HB.out)); clear HB; rename_i HB BK195 GW195 GE195; clear hb hbox hg))
 go_ret
 exact ⟨by first | rfl | (simp [errW_none, errW_some] <;> rfl) | (simp [*, errW_none, errW_some] <;> rfl), bS HB.out⟩
/-! ### spec_l3Fits: function 56 -/
def spec_l3Fits.f (a0 : Int) (a1 : Int) : Option (Bool) := (spec_l1In.f a0 0 65535).bind fun t196 => (if t196 = true then (some (decide ((wrap64 (a0 + a1)) ≤ 65536))) else (some false))
set_option maxHeartbeats 8000000 in
set_option maxRecDepth 100000 in
theorem spec_l3Fits.calls (a0 : Int) (a1 : Int) (r : Bool) (w : World) (h : spec_l3Fits.f a0 a1 = some r) :
  Calls Try.prog 56 #[.int .i64 a0, .int .i64 a1] w fun e w' => e = .returned (.bool r) ∧ Drawn0 w w' := by
 have H : ((spec_l1In.f a0 0 65535).bind fun t196 => (if t196 = true then (some (decide ((wrap64 (a0 + a1)) ≤ 65536))) else (some false))) = some r := h
 clear h
 replace H := Option.bind_eq_some_iff.mp H
 obtain ⟨t196, A30, H⟩ := H
 (try dsimp only at H)
 have A3 := aM A30
 clear A30
 by_cases c4 : t196 = true
 rotate_left
 ·replace c4 := Bool.eq_false_iff.mpr c4
  subst c4
  rw [if_neg (show ¬ (false = true) by decide)] at H
  (try dsimp only at H)
  obtain rfl := Option.some.inj H
  go_enter Try.func56, Try.ntmps56
  go_wp2_with (first | ((with_reducible refine gate_callee (f := 54) rfl ?_); refine gL (some 6) rfl rfl Try.func54 (by kernel_rfl) rfl #[.int .i64 a0, .int .i64 0, .int .i64 65535] rfl ?_; (with_reducible refine (spec_l1In.calls a0 0 65535 false _ A3.out).mono ?_); rintro e w' ⟨rfl, ⟨nd, rfl⟩⟩; refine ⟨_, rfl, ?_⟩))
  go_ret
  exact ⟨by first | rfl | (simp; done) | (simp [*]; done), by repeat (first | exact Drawn0.refl _ | apply Drawn0.step)⟩
 subst c4
 rw [if_pos rfl] at H
 (try dsimp only at H)
 obtain rfl := Option.some.inj H
 go_enter Try.func56, Try.ntmps56
 go_wp2_with (first | ((with_reducible refine gate_callee (f := 54) rfl ?_); refine gL (some 6) rfl rfl Try.func54 (by kernel_rfl) rfl #[.int .i64 a0, .int .i64 0, .int .i64 65535] rfl ?_; (with_reducible refine (spec_l1In.calls a0 0 65535 true _ A3.out).mono ?_); rintro e w' ⟨rfl, ⟨nd, rfl⟩⟩; refine ⟨_, rfl, ?_⟩))
 go_ret
 exact ⟨by first | rfl | (simp; done) | (simp [*]; done), by repeat (first | exact Drawn0.refl _ | apply Drawn0.step)⟩
/-! ### spec_ReqOk: function 32 -/
mutual
def spec_ReqOk.j0 : Nat → Bool → Int → Int → Int → List Int → List Bool → Int → Option (Bool)
 | 0, _, _, _, _, _, _, _ => none
 | k + 1, x12, x198000, x198001, x198002, x198003, x198004, x198005 => if x12 = true then (some false) else (if x198000 = 1 then (spec_ReqOk.j1 k x198000 (x198000 == 1) x198000 x198001 x198002 x198003 x198004 x198005) else (spec_ReqOk.j1 k x198000 (x198000 == 2) x198000 x198001 x198002 x198003 x198004 x198005))
def spec_ReqOk.j1 : Nat → Int → Bool → Int → Int → Int → List Int → List Bool → Int → Option (Bool)
 | 0, _, _, _, _, _, _, _, _ => none
 | k + 1, x14, x15, x198000, x198001, x198002, x198003, x198004, x198005 => if x15 = true then ((spec_l3Zero.f x198000 x198001 x198002 x198003 x198004 x198005 true false false false).bind fun t200 => (if t200 = true then ((spec_l1In.f x198002 1 2000).bind fun t201 => (if t201 = true then ((spec_l3Fits.f x198001 x198002).bind fun t202 => (some t202)) else (some false))) else (some false))) else (if x14 = 3 then (spec_ReqOk.j2 k x14 (x14 == 3) x198000 x198001 x198002 x198003 x198004 x198005) else (spec_ReqOk.j2 k x14 (x14 == 4) x198000 x198001 x198002 x198003 x198004 x198005))
def spec_ReqOk.j2 : Nat → Int → Bool → Int → Int → Int → List Int → List Bool → Int → Option (Bool)
 | 0, _, _, _, _, _, _, _, _ => none
 | k + 1, x14, x32, x198000, x198001, x198002, x198003, x198004, x198005 => if x32 = true then ((spec_l3Zero.f x198000 x198001 x198002 x198003 x198004 x198005 true false false false).bind fun t203 => (if t203 = true then ((spec_l1In.f x198002 1 125).bind fun t204 => (if t204 = true then ((spec_l3Fits.f x198001 x198002).bind fun t205 => (some t205)) else (some false))) else (some false))) else (if x14 = 5 then ((spec_l3Zero.f x198000 x198001 x198002 x198003 x198004 x198005 false false true false).bind fun t206 => (if t206 = true then (some ((x198004.length : Int) == 1)) else (some false))) else (if x14 = 6 then ((spec_l3Zero.f x198000 x198001 x198002 x198003 x198004 x198005 false true false false).bind fun t207 => (if t207 = true then (some ((x198003.length : Int) == 1)) else (some false))) else (if x14 = 15 then ((spec_l3Zero.f x198000 x198001 x198002 x198003 x198004 x198005 false false true false).bind fun t208 => (if t208 = true then ((spec_l1In.f (x198004.length : Int) 1 1968).bind fun t209 => (if t209 = true then ((spec_l3Fits.f x198001 (x198004.length : Int)).bind fun t210 => (some t210)) else (some false))) else (some false))) else (if x14 = 16 then ((spec_l3Zero.f x198000 x198001 x198002 x198003 x198004 x198005 false true false false).bind fun t211 => (if t211 = true then ((spec_l1In.f (x198003.length : Int) 1 123).bind fun t212 => (if t212 = true then ((spec_l3Fits.f x198001 (x198003.length : Int)).bind fun t213 => (some t213)) else (some false))) else (some false))) else (if x14 = 22 then ((spec_l3Zero.f x198000 x198001 x198002 x198003 x198004 x198005 false true false false).bind fun t214 => (if t214 = true then (some ((x198003.length : Int) == 2)) else (some false))) else (if x14 = 23 then ((spec_l3Zero.f x198000 x198001 x198002 x198003 x198004 x198005 true true false true).bind fun t215 => (if t215 = true then ((spec_l1In.f x198002 1 125).bind fun t216 => (if t216 = true then ((spec_l3Fits.f x198001 x198002).bind fun t217 => (if t217 = true then ((spec_l1In.f (x198003.length : Int) 1 121).bind fun t218 => (if t218 = true then ((spec_l3Fits.f x198005 (x198003.length : Int)).bind fun t219 => (some t219)) else (some false))) else (some false))) else (some false))) else (some false))) else (some false)))))))
end
def spec_ReqOk.f (k : Nat) (a0_0 : Int) (a0_1 : Int) (a0_2 : Int) (l0_3 : List Int) (l0_4 : List Bool) (a0_5 : Int) : Option (Bool) := (spec_l3Words.f k l0_3).bind fun t198 => (if t198 = true then ((spec_l1In.f a0_1 0 65535).bind fun t199 => (spec_ReqOk.j0 k (!t199) a0_0 a0_1 a0_2 l0_3 l0_4 a0_5)) else (spec_ReqOk.j0 k true a0_0 a0_1 a0_2 l0_3 l0_4 a0_5))
theorem spec_ReqOk.mono_l : ∀ k, (∀ y0 y1 y2 y3 y4 y5 y6, LeO (spec_ReqOk.j0 k y0 y1 y2 y3 y4 y5 y6) (spec_ReqOk.j0 (k + 1) y0 y1 y2 y3 y4 y5 y6)) ∧ (∀ y0 y1 y2 y3 y4 y5 y6 y7, LeO (spec_ReqOk.j1 k y0 y1 y2 y3 y4 y5 y6 y7) (spec_ReqOk.j1 (k + 1) y0 y1 y2 y3 y4 y5 y6 y7)) ∧ (∀ y0 y1 y2 y3 y4 y5 y6 y7, LeO (spec_ReqOk.j2 k y0 y1 y2 y3 y4 y5 y6 y7) (spec_ReqOk.j2 (k + 1) y0 y1 y2 y3 y4 y5 y6 y7))
 | 0 => ⟨fun _ _ _ _ _ _ _ r h => by simp [spec_ReqOk.j0] at h, fun _ _ _ _ _ _ _ _ r h => by simp [spec_ReqOk.j1] at h, fun _ _ _ _ _ _ _ _ r h => by simp [spec_ReqOk.j2] at h⟩
 | k + 1 => by
  obtain ⟨ih0, ih1, ih2⟩ := spec_ReqOk.mono_l k
  refine ⟨?_, ?_, ?_⟩
  ·intro y0 y1 y2 y3 y4 y5 y6
   unfold spec_ReqOk.j0
   repeat' first
   | (with_reducible exact ih0 _ _ _ _ _ _ _)
   | (with_reducible exact ih1 _ _ _ _ _ _ _ _)
   | (with_reducible exact ih2 _ _ _ _ _ _ _ _)
   | (with_reducible exact spec_l3Words.mono _ _)
   | (with_reducible exact LeO.refl _)
   | (with_reducible exact LeO.none _)
   | (with_reducible refine LeO.ite ?_ ?_)
   | (with_reducible refine LeO.bind ?_ (fun _ => ?_))
   | exact ih0 _ _ _ _ _ _ _
   | exact ih1 _ _ _ _ _ _ _ _
   | exact ih2 _ _ _ _ _ _ _ _
   | exact spec_l3Words.mono _ _
   | exact LeO.none _
   | refine LeO.ite ?_ ?_
   | refine LeO.bind ?_ (fun _ => ?_)
  ·intro y0 y1 y2 y3 y4 y5 y6 y7
   unfold spec_ReqOk.j1
   repeat' first
   | (with_reducible exact ih0 _ _ _ _ _ _ _)
   | (with_reducible exact ih1 _ _ _ _ _ _ _ _)
   | (with_reducible exact ih2 _ _ _ _ _ _ _ _)
   | (with_reducible exact spec_l3Words.mono _ _)
   | (with_reducible exact LeO.refl _)
   | (with_reducible exact LeO.none _)
   | (with_reducible refine LeO.ite ?_ ?_)
   | (with_reducible refine LeO.bind ?_ (fun _ => ?_))
   | exact ih0 _ _ _ _ _ _ _
   | exact ih1 _ _ _ _ _ _ _ _
   | exact ih2 _ _ _ _ _ _ _ _
   | exact spec_l3Words.mono _ _
   | exact LeO.none _
   | refine LeO.ite ?_ ?_
   | refine LeO.bind ?_ (fun _ => ?_)
  ·intro y0 y1 y2 y3 y4 y5 y6 y7
   unfold spec_ReqOk.j2
   repeat' first
   | (with_reducible exact ih0 _ _ _ _ _ _ _)
   | (with_reducible exact ih1 _ _ _ _ _ _ _ _)
   | (with_reducible exact ih2 _ _ _ _ _ _ _ _)
   | (with_reducible exact spec_l3Words.mono _ _)
   | (with_reducible exact LeO.refl _)
   | (with_reducible exact LeO.none _)
   | (with_reducible refine LeO.ite ?_ ?_)
   | (with_reducible refine LeO.bind ?_ (fun _ => ?_))
   | exact ih0 _ _ _ _ _ _ _
   | exact ih1 _ _ _ _ _ _ _ _
   | exact ih2 _ _ _ _ _ _ _ _
   | exact spec_l3Words.mono _ _
   | exact LeO.none _
   | refine LeO.ite ?_ ?_
   | refine LeO.bind ?_ (fun _ => ?_)
theorem spec_ReqOk.mono : ∀ a0 a1 a2 a3 a4 a5 k, LeO (spec_ReqOk.f k a0 a1 a2 a3 a4 a5) (spec_ReqOk.f (k + 1) a0 a1 a2 a3 a4 a5) := by
 intro a0 a1 a2 a3 a4 a5 k
 obtain ⟨ih0, ih1, ih2⟩ := spec_ReqOk.mono_l k
 unfold spec_ReqOk.f
 repeat' first
   | (with_reducible exact ih0 _ _ _ _ _ _ _)
   | (with_reducible exact ih1 _ _ _ _ _ _ _ _)
   | (with_reducible exact ih2 _ _ _ _ _ _ _ _)
   | (with_reducible exact spec_l3Words.mono _ _)
   | (with_reducible exact LeO.refl _)
   | (with_reducible exact LeO.none _)
   | (with_reducible refine LeO.ite ?_ ?_)
   | (with_reducible refine LeO.bind ?_ (fun _ => ?_))
   | exact ih0 _ _ _ _ _ _ _
   | exact ih1 _ _ _ _ _ _ _ _
   | exact ih2 _ _ _ _ _ _ _ _
   | exact spec_l3Words.mono _ _
   | exact LeO.none _
   | refine LeO.ite ?_ ?_
   | refine LeO.bind ?_ (fun _ => ?_)
set_option maxHeartbeats 8000000 in
set_option maxRecDepth 100000 in
theorem spec_ReqOk.calls (k : Nat) (a0_0 : Int) (a0_1 : Int) (a0_2 : Int) (A0_3 : Option Addr) (c0_3 : Nat) (l0_3 : List Int) (A0_4 : Option Addr) (c0_4 : Nat) (l0_4 : List Bool) (a0_5 : Int) (r : Bool) (w : World) (hr0_3 : Kd.C (Kd.int .i64) w A0_3 l0_3.length l0_3) (hc0_3 : l0_3.length ≤ c0_3) (hr0_4 : Kd.C Kd.bool w A0_4 l0_4.length l0_4) (hc0_4 : l0_4.length ≤ c0_4) (h : spec_ReqOk.f k a0_0 a0_1 a0_2 l0_3 l0_4 a0_5 = some r) :
  Calls Try.prog 32 #[.agg #[.int .i64 a0_0, .int .i64 a0_1, .int .i64 a0_2, .slice A0_3 l0_3.length c0_3, .slice A0_4 l0_4.length c0_4, .int .i64 a0_5]] w fun e w' => e = .returned (.bool r) ∧ Below w.heap.size w w' := by
 have hu36 := Try.underlying36
 have HR0_3 := aM hr0_3
 have HC0_3 := aM hc0_3
 clear hr0_3 hc0_3
 have HR0_4 := aM hr0_4
 have HC0_4 := aM hc0_4
 clear hr0_4 hc0_4
 have HB := aM (Below.refl w.heap.size w)
 have H : ((spec_l3Words.f k l0_3).bind fun t198 => (if t198 = true then ((spec_l1In.f a0_1 0 65535).bind fun t199 => (spec_ReqOk.j0 k (!t199) a0_0 a0_1 a0_2 l0_3 l0_4 a0_5)) else (spec_ReqOk.j0 k true a0_0 a0_1 a0_2 l0_3 l0_4 a0_5))) = some r := h
 clear h
 have HC2 := aM H
 clear H
 go_enter Try.func32, Try.ntmps32
 go_upto_region 1 with (first | ((with_reducible refine gate_dst (N := 1) rfl ?_); (try (refine gate_guard (by rfl) ?_; dsimp only)); refine box_event ?hg (N := 1) ?hd (cs := #[.int .i64 a0_0, .int .i64 a0_1, .int .i64 a0_2, .slice A0_3 l0_3.length c0_3, .slice A0_4 l0_4.length c0_4, .int .i64 a0_5]) (t := 36) ?hr ?_; (case hd => rfl); (case hg => rfl); (case hr => first | (go_simp; done) | (go_simp; rfl)); intro gb197 hg w3 hbox hb; have _ := aM (below_step (bS HB.out) hb); have _ := aM (hbox); have _ := aM (leG hg (bS HB.out)); have _ := aM (leG hg (bS HB.out)); clear HB; rename_i HB BK197 GW197 GE197; clear hb hbox hg))
 (try simp only [Act.put, List.setIfInBounds_toArray, List.set_cons_zero, List.set_cons_succ])
 go_cut [12] (fun v12 wc => ∃ (kq : Nat) (x12_1 : Bool), v12 = .bool x12_1 ∧ Aside0 (spec_ReqOk.j0 kq x12_1 a0_0 a0_1 a0_2 l0_3 l0_4 a0_5 = some r) ∧ Aside0 (kq ≤ k) ∧ Aside0 (wc.heap[gb197]? = some (.cells #[.int .i64 a0_0, .int .i64 a0_1, .int .i64 a0_2, (.slice A0_3 l0_3.length c0_3), (.slice A0_4 l0_4.length c0_4), .int .i64 a0_5] 36 (0, 0))) ∧ Aside0 (Below w.heap.size w wc))
 case first =>
  have H := HC2.out
  clear HC2
  replace H := Option.bind_eq_some_iff.mp H
  obtain ⟨t198, A40, H⟩ := H
  (try dsimp only at H)
  have A4 := aM A40
  clear A40
  by_cases c5 : t198 = true
  rotate_left
  ·replace c5 := Bool.eq_false_iff.mpr c5
   subst c5
   rw [if_neg (show ¬ (false = true) by decide)] at H
   (try dsimp only at H)
   have H' := aM H
   clear H
   obtain ⟨hcz8_0, hfz8_0, hcz8_1, hfz8_1, hcz8_2, hfz8_2, hcz8_3, hfz8_3, hcz8_4, hfz8_4, hcz8_5, hfz8_5⟩ := bk6 BK197.out
   go_wp2_with (first | ((with_reducible refine gate_callee (f := 53) rfl ?_); refine gL (some 5) rfl rfl Try.func53 (by kernel_rfl) rfl #[.slice A0_3 l0_3.length c0_3] rfl ?_; (with_reducible refine (spec_l3Words.calls k _ _ l0_3 false _ ?side1 ?side2 A4.out).mono ?_); (case side1 => exact cB HR0_3.out HB.out); (case side2 => exact HC0_3.out); rintro e w' ⟨rfl, ⟨nd, rfl⟩⟩; refine ⟨_, rfl, ?_⟩))
   go_meet
   case rel => exact ⟨_, (true), (by first | rfl | (simp; done) | (simp [*]; done)), H', ⟨by first | omega | exact Nat.le_refl _⟩, ⟨kX BK197.out⟩, ⟨bS HB.out⟩⟩
  subst c5
  rw [if_pos rfl] at H
  (try dsimp only at H)
  replace H := Option.bind_eq_some_iff.mp H
  obtain ⟨t199, A60, H⟩ := H
  (try dsimp only at H)
  have A6 := aM A60
  clear A60
  have H' := aM H
  clear H
  obtain ⟨hcz7_0, hfz7_0, hcz7_1, hfz7_1, hcz7_2, hfz7_2, hcz7_3, hfz7_3, hcz7_4, hfz7_4, hcz7_5, hfz7_5⟩ := bk6 BK197.out
  go_wp2_with (first | ((with_reducible refine gate_callee (f := 53) rfl ?_); refine gL (some 5) rfl rfl Try.func53 (by kernel_rfl) rfl #[.slice A0_3 l0_3.length c0_3] rfl ?_; (with_reducible refine (spec_l3Words.calls k _ _ l0_3 true _ ?side1 ?side2 A4.out).mono ?_); (case side1 => exact cB HR0_3.out HB.out); (case side2 => exact HC0_3.out); rintro e w' ⟨rfl, ⟨nd, rfl⟩⟩; refine ⟨_, rfl, ?_⟩) | (go_at_call 54; (with_reducible refine (spec_l1In.calls a0_1 0 65535 t199 _ A6.out).mono ?_); rintro e w' ⟨rfl, ⟨nd, rfl⟩⟩))
  go_meet
  case rel => exact ⟨_, (!t199), (by first | rfl | (simp; done) | (simp [*]; done)), H', ⟨by first | omega | exact Nat.le_refl _⟩, ⟨kX BK197.out⟩, ⟨bS HB.out⟩⟩
 case rest =>
  clear HC2
  obtain ⟨kq, x12_1, rfl, HA, HJ1, BK197, HB⟩ := hcut
  cases kq with
  | zero => exact absurd HA.out (by simp [spec_ReqOk.j0])
  | succ kj1 =>
   have H := HA.out
   clear HA
   simp only [spec_ReqOk.j0] at H
   by_cases c9 : x12_1 = true
   ·subst c9
    rw [if_pos rfl] at H
    (try dsimp only at H)
    obtain rfl := Option.some.inj H
    go_wp2
    go_ret
    exact ⟨by first | rfl | (simp [errW_none, errW_some] <;> rfl) | (simp [*, errW_none, errW_some] <;> rfl), bS HB.out⟩
   ·replace c9 := Bool.eq_false_iff.mpr c9
    subst c9
    rw [if_neg (show ¬ (false = true) by decide)] at H
    (try dsimp only at H)
    have HC10 := aM H
    clear H
    obtain ⟨hcz11_0, hfz11_0, hcz11_1, hfz11_1, hcz11_2, hfz11_2, hcz11_3, hfz11_3, hcz11_4, hfz11_4, hcz11_5, hfz11_5⟩ := bk6 BK197.out
    go_upto_if 15 with (fail)
    go_cut [15] (fun v15 wc => ∃ (kq : Nat) (x15_9 : Bool), v15 = .bool x15_9 ∧ Aside0 (spec_ReqOk.j1 kq a0_0 x15_9 a0_0 a0_1 a0_2 l0_3 l0_4 a0_5 = some r) ∧ Aside0 (kq ≤ kj1) ∧ Aside0 (wc.heap[gb197]? = some (.cells #[.int .i64 a0_0, .int .i64 a0_1, .int .i64 a0_2, (.slice A0_3 l0_3.length c0_3), (.slice A0_4 l0_4.length c0_4), .int .i64 a0_5] 36 (0, 0))) ∧ Aside0 (Below w.heap.size w wc))
    case first =>
     have H := HC10.out
     clear HC10
     by_cases c12 : a0_0 = 1
     rotate_left
     ·rw [if_neg c12] at H
      have c12b0 : (a0_0 == 1) = false := beq_eq_false_iff_ne.mpr c12
      have c12b1 : (a0_0 != 1) = true := bne_iff_ne.mpr c12
      (first | rw [c12b0] | (simp only [i64_w, i32_w]; rw [c12b0]) | skip)
      have H' := aM H
      clear H
      go_wp2
      go_meet
      case rel => exact ⟨_, ((a0_0 == 2)), (by first | rfl | (simp; done) | (simp [*]; done)), H', ⟨by have := HJ1.out; first | omega | exact Nat.le_refl _⟩, ⟨kX BK197.out⟩, ⟨bS HB.out⟩⟩
     rw [if_pos c12] at H
     have c12b0 : (a0_0 == 1) = true := beq_iff_eq.mpr c12
     have c12b1 : (a0_0 != 1) = false := bne_eq_false_iff_eq.mpr c12
     clear c12
     (first | rw [c12b0] | (simp only [i64_w, i32_w]; rw [c12b0]) | skip)
     have H' := aM H
     clear H
     go_wp2
     go_meet
     case rel => exact ⟨_, ((a0_0 == 1)), (by first | rfl | (simp; done) | (simp [*]; done)), H', ⟨by have := HJ1.out; first | omega | exact Nat.le_refl _⟩, ⟨kX BK197.out⟩, ⟨bS HB.out⟩⟩
    case rest =>
     clear HC10
     try clear p2
     try clear c3
     try clear c5
     try clear c9
     try clear hcz11_0
     try clear hcz11_1
     try clear hcz11_2
     try clear hcz11_3
     try clear hcz11_4
     try clear hcz11_5
     try clear hcz7_0
     try clear hcz7_1
     try clear hcz7_2
     try clear hcz7_3
     try clear hcz7_4
     try clear hcz7_5
     try clear hcz8_0
     try clear hcz8_1
     try clear hcz8_2
     try clear hcz8_3
     try clear hcz8_4
     try clear hcz8_5
     try clear hfz11_0
     try clear hfz11_1
     try clear hfz11_2
     try clear hfz11_3
     try clear hfz11_4
     try clear hfz11_5
     try clear hfz7_0
     try clear hfz7_1
     try clear hfz7_2
     try clear hfz7_3
     try clear hfz7_4
     try clear hfz7_5
     try clear hfz8_0
     try clear hfz8_1
     try clear hfz8_2
     try clear hfz8_3
     try clear hfz8_4
     try clear hfz8_5
     try clear p2
     obtain ⟨kq, x15_9, rfl, HA, HJ9, BK197, HB⟩ := hcut
     cases kq with
     | zero => exact absurd HA.out (by simp [spec_ReqOk.j1])
     | succ kj9 =>
      have H := HA.out
      clear HA
      simp only [spec_ReqOk.j1] at H
      by_cases c13 : x15_9 = true
      ·subst c13
       rw [if_pos rfl] at H
       (try dsimp only at H)
       replace H := Option.bind_eq_some_iff.mp H
       obtain ⟨t200, A140, H⟩ := H
       (try dsimp only at H)
       have A14 := aM A140
       clear A140
       by_cases c15 : t200 = true
       rotate_left
       ·replace c15 := Bool.eq_false_iff.mpr c15
        subst c15
        rw [if_neg (show ¬ (false = true) by decide)] at H
        (try dsimp only at H)
        obtain rfl := Option.some.inj H
        obtain ⟨hcz25_0, hfz25_0, hcz25_1, hfz25_1, hcz25_2, hfz25_2, hcz25_3, hfz25_3, hcz25_4, hfz25_4, hcz25_5, hfz25_5⟩ := bk6 BK197.out
        go_wp2_with (first | ((with_reducible refine gate_callee (f := 55) rfl ?_); refine gL (some 19) rfl rfl Try.func55 (by kernel_rfl) rfl #[.agg #[.int .i64 a0_0, .int .i64 a0_1, .int .i64 a0_2, .slice A0_3 l0_3.length c0_3, .slice A0_4 l0_4.length c0_4, .int .i64 a0_5], .bool true, .bool false, .bool false, .bool false] rfl ?_; (with_reducible refine (spec_l3Zero.calls a0_0 a0_1 a0_2 _ _ l0_3 _ _ l0_4 a0_5 true false false false false _ ?side1 ?side2 ?side3 ?side4 A14.out).mono ?_); (case side1 => exact cB HR0_3.out HB.out); (case side2 => exact HC0_3.out); (case side3 => exact cB HR0_4.out HB.out); (case side4 => exact HC0_4.out); rintro e w26 ⟨rfl, hb⟩; refine ⟨_, rfl, ?_⟩; have _ := aM (kB BK197.out hb); have _ := aM (below_step (bS HB.out) hb); clear BK197 HB; rename_i BK197 HB; (try clear hb)))
        go_ret
        exact ⟨by first | rfl | (simp [errW_none, errW_some] <;> rfl) | (simp [*, errW_none, errW_some] <;> rfl), bS HB.out⟩
       subst c15
       rw [if_pos rfl] at H
       (try dsimp only at H)
       replace H := Option.bind_eq_some_iff.mp H
       obtain ⟨t201, A160, H⟩ := H
       (try dsimp only at H)
       have A16 := aM A160
       clear A160
       by_cases c17 : t201 = true
       rotate_left
       ·replace c17 := Bool.eq_false_iff.mpr c17
        subst c17
        rw [if_neg (show ¬ (false = true) by decide)] at H
        (try dsimp only at H)
        obtain rfl := Option.some.inj H
        obtain ⟨hcz22_0, hfz22_0, hcz22_1, hfz22_1, hcz22_2, hfz22_2, hcz22_3, hfz22_3, hcz22_4, hfz22_4, hcz22_5, hfz22_5⟩ := bk6 BK197.out
        go_wp2_with (first | ((with_reducible refine gate_callee (f := 55) rfl ?_); refine gL (some 19) rfl rfl Try.func55 (by kernel_rfl) rfl #[.agg #[.int .i64 a0_0, .int .i64 a0_1, .int .i64 a0_2, .slice A0_3 l0_3.length c0_3, .slice A0_4 l0_4.length c0_4, .int .i64 a0_5], .bool true, .bool false, .bool false, .bool false] rfl ?_; (with_reducible refine (spec_l3Zero.calls a0_0 a0_1 a0_2 _ _ l0_3 _ _ l0_4 a0_5 true false false false true _ ?side1 ?side2 ?side3 ?side4 A14.out).mono ?_); (case side1 => exact cB HR0_3.out HB.out); (case side2 => exact HC0_3.out); (case side3 => exact cB HR0_4.out HB.out); (case side4 => exact HC0_4.out); rintro e w23 ⟨rfl, hb⟩; refine ⟨_, rfl, ?_⟩; have _ := aM (kB BK197.out hb); have _ := aM (below_step (bS HB.out) hb); clear BK197 HB; rename_i BK197 HB; (try clear hb); obtain ⟨hcz24_0, hfz24_0, hcz24_1, hfz24_1, hcz24_2, hfz24_2, hcz24_3, hfz24_3, hcz24_4, hfz24_4, hcz24_5, hfz24_5⟩ := bk6 BK197.out) | (go_at_call 54; (with_reducible refine (spec_l1In.calls a0_2 1 2000 false _ A16.out).mono ?_); rintro e w' ⟨rfl, ⟨nd, rfl⟩⟩))
        go_ret
        exact ⟨by first | rfl | (simp [errW_none, errW_some] <;> rfl) | (simp [*, errW_none, errW_some] <;> rfl), bS HB.out⟩
       subst c17
       rw [if_pos rfl] at H
       (try dsimp only at H)
       replace H := Option.bind_eq_some_iff.mp H
       obtain ⟨t202, A180, H⟩ := H
       (try dsimp only at H)
       have A18 := aM A180
       clear A180
       obtain rfl := Option.some.inj H
       obtain ⟨hcz19_0, hfz19_0, hcz19_1, hfz19_1, hcz19_2, hfz19_2, hcz19_3, hfz19_3, hcz19_4, hfz19_4, hcz19_5, hfz19_5⟩ := bk6 BK197.out
       go_wp2_with (first | ((with_reducible refine gate_callee (f := 55) rfl ?_); refine gL (some 19) rfl rfl Try.func55 (by kernel_rfl) rfl #[.agg #[.int .i64 a0_0, .int .i64 a0_1, .int .i64 a0_2, .slice A0_3 l0_3.length c0_3, .slice A0_4 l0_4.length c0_4, .int .i64 a0_5], .bool true, .bool false, .bool false, .bool false] rfl ?_; (with_reducible refine (spec_l3Zero.calls a0_0 a0_1 a0_2 _ _ l0_3 _ _ l0_4 a0_5 true false false false true _ ?side1 ?side2 ?side3 ?side4 A14.out).mono ?_); (case side1 => exact cB HR0_3.out HB.out); (case side2 => exact HC0_3.out); (case side3 => exact cB HR0_4.out HB.out); (case side4 => exact HC0_4.out); rintro e w20 ⟨rfl, hb⟩; refine ⟨_, rfl, ?_⟩; have _ := aM (kB BK197.out hb); have _ := aM (below_step (bS HB.out) hb); clear BK197 HB; rename_i BK197 HB; (try clear hb); obtain ⟨hcz21_0, hfz21_0, hcz21_1, hfz21_1, hcz21_2, hfz21_2, hcz21_3, hfz21_3, hcz21_4, hfz21_4, hcz21_5, hfz21_5⟩ := bk6 BK197.out) | (go_at_call 54; (with_reducible refine (spec_l1In.calls a0_2 1 2000 true _ A16.out).mono ?_); rintro e w' ⟨rfl, ⟨nd, rfl⟩⟩) | (go_at_call 56; (with_reducible refine (spec_l3Fits.calls a0_1 a0_2 t202 _ A18.out).mono ?_); rintro e w' ⟨rfl, ⟨nd, rfl⟩⟩))
       go_ret
       exact ⟨by first | rfl | (simp [errW_none, errW_some] <;> rfl) | (simp [*, errW_none, errW_some] <;> rfl), bS HB.out⟩
      ·replace c13 := Bool.eq_false_iff.mpr c13
       subst c13
       rw [if_neg (show ¬ (false = true) by decide)] at H
       (try dsimp only at H)
       have HC27 := aM H
       clear H
       go_upto_if 32 with (fail)
       go_cut [32] (fun v32 wc => ∃ (kq : Nat) (x32_26 : Bool), v32 = .bool x32_26 ∧ Aside0 (spec_ReqOk.j2 kq a0_0 x32_26 a0_0 a0_1 a0_2 l0_3 l0_4 a0_5 = some r) ∧ Aside0 (kq ≤ kj9) ∧ Aside0 (wc.heap[gb197]? = some (.cells #[.int .i64 a0_0, .int .i64 a0_1, .int .i64 a0_2, (.slice A0_3 l0_3.length c0_3), (.slice A0_4 l0_4.length c0_4), .int .i64 a0_5] 36 (0, 0))) ∧ Aside0 (Below w.heap.size w wc))
       case first =>
        have H := HC27.out
        clear HC27
        by_cases c28 : a0_0 = 3
        rotate_left
        ·rw [if_neg c28] at H
         have c28b0 : (a0_0 == 3) = false := beq_eq_false_iff_ne.mpr c28
         have c28b1 : (a0_0 != 3) = true := bne_iff_ne.mpr c28
         (first | rw [c28b0] | (simp only [i64_w, i32_w]; rw [c28b0]) | skip)
         have H' := aM H
         clear H
         go_wp2
         go_meet
         case rel => exact ⟨_, ((a0_0 == 4)), (by first | rfl | (simp; done) | (simp [*]; done)), H', ⟨by have := HJ1.out; have := HJ9.out; first | omega | exact Nat.le_refl _⟩, ⟨kX BK197.out⟩, ⟨bS HB.out⟩⟩
        rw [if_pos c28] at H
        have c28b0 : (a0_0 == 3) = true := beq_iff_eq.mpr c28
        have c28b1 : (a0_0 != 3) = false := bne_eq_false_iff_eq.mpr c28
        clear c28
        (first | rw [c28b0] | (simp only [i64_w, i32_w]; rw [c28b0]) | skip)
        have H' := aM H
        clear H
        go_wp2
        go_meet
        case rel => exact ⟨_, ((a0_0 == 3)), (by first | rfl | (simp; done) | (simp [*]; done)), H', ⟨by have := HJ1.out; have := HJ9.out; first | omega | exact Nat.le_refl _⟩, ⟨kX BK197.out⟩, ⟨bS HB.out⟩⟩
       case rest =>
        clear HC27
        try clear c1
        try clear p2
        try clear c3
        try clear c5
        try clear c9
        try clear c12
        try clear c12b0
        try clear c12b1
        try clear c13
        try clear c15
        try clear c17
        try clear hcz11_0
        try clear hcz11_1
        try clear hcz11_2
        try clear hcz11_3
        try clear hcz11_4
        try clear hcz11_5
        try clear hcz19_0
        try clear hcz19_1
        try clear hcz19_2
        try clear hcz19_3
        try clear hcz19_4
        try clear hcz19_5
        try clear hcz21_0
        try clear hcz21_1
        try clear hcz21_2
        try clear hcz21_3
        try clear hcz21_4
        try clear hcz21_5
        try clear hcz22_0
        try clear hcz22_1
        try clear hcz22_2
        try clear hcz22_3
        try clear hcz22_4
        try clear hcz22_5
        try clear hcz24_0
        try clear hcz24_1
        try clear hcz24_2
        try clear hcz24_3
        try clear hcz24_4
        try clear hcz24_5
        try clear hcz25_0
        try clear hcz25_1
        try clear hcz25_2
        try clear hcz25_3
        try clear hcz25_4
        try clear hcz25_5
        try clear hcz7_0
        try clear hcz7_1
        try clear hcz7_2
        try clear hcz7_3
        try clear hcz7_4
        try clear hcz7_5
        try clear hcz8_0
        try clear hcz8_1
        try clear hcz8_2
        try clear hcz8_3
        try clear hcz8_4
        try clear hcz8_5
        try clear hfz11_0
        try clear hfz11_1
        try clear hfz11_2
        try clear hfz11_3
        try clear hfz11_4
        try clear hfz11_5
        try clear hfz19_0
        try clear hfz19_1
        try clear hfz19_2
        try clear hfz19_3
        try clear hfz19_4
        try clear hfz19_5
        try clear hfz21_0
        try clear hfz21_1
        try clear hfz21_2
        try clear hfz21_3
        try clear hfz21_4
        try clear hfz21_5
        try clear hfz22_0
        try clear hfz22_1
        try clear hfz22_2
        try clear hfz22_3
        try clear hfz22_4
        try clear hfz22_5
        try clear hfz24_0
        try clear hfz24_1
        try clear hfz24_2
        try clear hfz24_3
        try clear hfz24_4
        try clear hfz24_5
        try clear hfz25_0
        try clear hfz25_1
        try clear hfz25_2
        try clear hfz25_3
        try clear hfz25_4
        try clear hfz25_5
        try clear hfz7_0
        try clear hfz7_1
        try clear hfz7_2
        try clear hfz7_3
        try clear hfz7_4
        try clear hfz7_5
        try clear hfz8_0
        try clear hfz8_1
        try clear hfz8_2
        try clear hfz8_3
        try clear hfz8_4
        try clear hfz8_5
        try clear p2
        obtain ⟨kq, x32_26, rfl, HA, HJ26, BK197, HB⟩ := hcut
        cases kq with
        | zero => exact absurd HA.out (by simp [spec_ReqOk.j2])
        | succ kj26 =>
         have H := HA.out
         clear HA
         simp only [spec_ReqOk.j2] at H
         by_cases c29 : x32_26 = true
         ·subst c29
          rw [if_pos rfl] at H
          (try dsimp only at H)
          replace H := Option.bind_eq_some_iff.mp H
          obtain ⟨t203, A300, H⟩ := H
          (try dsimp only at H)
          have A30 := aM A300
          clear A300
          by_cases c31 : t203 = true
          rotate_left
          ·replace c31 := Bool.eq_false_iff.mpr c31
           subst c31
           rw [if_neg (show ¬ (false = true) by decide)] at H
           (try dsimp only at H)
           obtain rfl := Option.some.inj H
           obtain ⟨hcz41_0, hfz41_0, hcz41_1, hfz41_1, hcz41_2, hfz41_2, hcz41_3, hfz41_3, hcz41_4, hfz41_4, hcz41_5, hfz41_5⟩ := bk6 BK197.out
           go_wp2_with (first | ((with_reducible refine gate_callee (f := 55) rfl ?_); refine gL (some 36) rfl rfl Try.func55 (by kernel_rfl) rfl #[.agg #[.int .i64 a0_0, .int .i64 a0_1, .int .i64 a0_2, .slice A0_3 l0_3.length c0_3, .slice A0_4 l0_4.length c0_4, .int .i64 a0_5], .bool true, .bool false, .bool false, .bool false] rfl ?_; (with_reducible refine (spec_l3Zero.calls a0_0 a0_1 a0_2 _ _ l0_3 _ _ l0_4 a0_5 true false false false false _ ?side1 ?side2 ?side3 ?side4 A30.out).mono ?_); (case side1 => exact cB HR0_3.out HB.out); (case side2 => exact HC0_3.out); (case side3 => exact cB HR0_4.out HB.out); (case side4 => exact HC0_4.out); rintro e w42 ⟨rfl, hb⟩; refine ⟨_, rfl, ?_⟩; have _ := aM (kB BK197.out hb); have _ := aM (below_step (bS HB.out) hb); clear BK197 HB; rename_i BK197 HB; (try clear hb)))
           go_ret
           exact ⟨by first | rfl | (simp [errW_none, errW_some] <;> rfl) | (simp [*, errW_none, errW_some] <;> rfl), bS HB.out⟩
          subst c31
          rw [if_pos rfl] at H
          (try dsimp only at H)
          replace H := Option.bind_eq_some_iff.mp H
          obtain ⟨t204, A320, H⟩ := H
          (try dsimp only at H)
          have A32 := aM A320
          clear A320
          by_cases c33 : t204 = true
          rotate_left
          ·replace c33 := Bool.eq_false_iff.mpr c33
           subst c33
           rw [if_neg (show ¬ (false = true) by decide)] at H
           (try dsimp only at H)
           obtain rfl := Option.some.inj H
           obtain ⟨hcz38_0, hfz38_0, hcz38_1, hfz38_1, hcz38_2, hfz38_2, hcz38_3, hfz38_3, hcz38_4, hfz38_4, hcz38_5, hfz38_5⟩ := bk6 BK197.out
           go_wp2_with (first | ((with_reducible refine gate_callee (f := 55) rfl ?_); refine gL (some 36) rfl rfl Try.func55 (by kernel_rfl) rfl #[.agg #[.int .i64 a0_0, .int .i64 a0_1, .int .i64 a0_2, .slice A0_3 l0_3.length c0_3, .slice A0_4 l0_4.length c0_4, .int .i64 a0_5], .bool true, .bool false, .bool false, .bool false] rfl ?_; (with_reducible refine (spec_l3Zero.calls a0_0 a0_1 a0_2 _ _ l0_3 _ _ l0_4 a0_5 true false false false true _ ?side1 ?side2 ?side3 ?side4 A30.out).mono ?_); (case side1 => exact cB HR0_3.out HB.out); (case side2 => exact HC0_3.out); (case side3 => exact cB HR0_4.out HB.out); (case side4 => exact HC0_4.out); rintro e w39 ⟨rfl, hb⟩; refine ⟨_, rfl, ?_⟩; have _ := aM (kB BK197.out hb); have _ := aM (below_step (bS HB.out) hb); clear BK197 HB; rename_i BK197 HB; (try clear hb); obtain ⟨hcz40_0, hfz40_0, hcz40_1, hfz40_1, hcz40_2, hfz40_2, hcz40_3, hfz40_3, hcz40_4, hfz40_4, hcz40_5, hfz40_5⟩ := bk6 BK197.out) | (go_at_call 54; (with_reducible refine (spec_l1In.calls a0_2 1 125 false _ A32.out).mono ?_); rintro e w' ⟨rfl, ⟨nd, rfl⟩⟩))
           go_ret
           exact ⟨by first | rfl | (simp [errW_none, errW_some] <;> rfl) | (simp [*, errW_none, errW_some] <;> rfl), bS HB.out⟩
          subst c33
          rw [if_pos rfl] at H
          (try dsimp only at H)
          replace H := Option.bind_eq_some_iff.mp H
          obtain ⟨t205, A340, H⟩ := H
          (try dsimp only at H)
          have A34 := aM A340
          clear A340
          obtain rfl := Option.some.inj H
          obtain ⟨hcz35_0, hfz35_0, hcz35_1, hfz35_1, hcz35_2, hfz35_2, hcz35_3, hfz35_3, hcz35_4, hfz35_4, hcz35_5, hfz35_5⟩ := bk6 BK197.out
          go_wp2_with (first | ((with_reducible refine gate_callee (f := 55) rfl ?_); refine gL (some 36) rfl rfl Try.func55 (by kernel_rfl) rfl #[.agg #[.int .i64 a0_0, .int .i64 a0_1, .int .i64 a0_2, .slice A0_3 l0_3.length c0_3, .slice A0_4 l0_4.length c0_4, .int .i64 a0_5], .bool true, .bool false, .bool false, .bool false] rfl ?_; (with_reducible refine (spec_l3Zero.calls a0_0 a0_1 a0_2 _ _ l0_3 _ _ l0_4 a0_5 true false false false true _ ?side1 ?side2 ?side3 ?side4 A30.out).mono ?_); (case side1 => exact cB HR0_3.out HB.out); (case side2 => exact HC0_3.out); (case side3 => exact cB HR0_4.out HB.out); (case side4 => exact HC0_4.out); rintro e w36 ⟨rfl, hb⟩; refine ⟨_, rfl, ?_⟩; have _ := aM (kB BK197.out hb); have _ := aM (below_step (bS HB.out) hb); clear BK197 HB; rename_i BK197 HB; (try clear hb); obtain ⟨hcz37_0, hfz37_0, hcz37_1, hfz37_1, hcz37_2, hfz37_2, hcz37_3, hfz37_3, hcz37_4, hfz37_4, hcz37_5, hfz37_5⟩ := bk6 BK197.out) | (go_at_call 54; (with_reducible refine (spec_l1In.calls a0_2 1 125 true _ A32.out).mono ?_); rintro e w' ⟨rfl, ⟨nd, rfl⟩⟩) | (go_at_call 56; (with_reducible refine (spec_l3Fits.calls a0_1 a0_2 t205 _ A34.out).mono ?_); rintro e w' ⟨rfl, ⟨nd, rfl⟩⟩))
          go_ret
          exact ⟨by first | rfl | (simp [errW_none, errW_some] <;> rfl) | (simp [*, errW_none, errW_some] <;> rfl), bS HB.out⟩
         ·replace c29 := Bool.eq_false_iff.mpr c29
          subst c29
          rw [if_neg (show ¬ (false = true) by decide)] at H
          (try dsimp only at H)
          by_cases c43 : a0_0 = 5
          ·rw [if_pos c43] at H
           have c43b0 : (a0_0 == 5) = true := beq_iff_eq.mpr c43
           have c43b1 : (a0_0 != 5) = false := bne_eq_false_iff_eq.mpr c43
           clear c43
           replace H := Option.bind_eq_some_iff.mp H
           obtain ⟨t206, A440, H⟩ := H
           (try dsimp only at H)
           have A44 := aM A440
           clear A440
           by_cases c45 : t206 = true
           rotate_left
           ·replace c45 := Bool.eq_false_iff.mpr c45
            subst c45
            rw [if_neg (show ¬ (false = true) by decide)] at H
            (try dsimp only at H)
            obtain rfl := Option.some.inj H
            obtain ⟨hcz49_0, hfz49_0, hcz49_1, hfz49_1, hcz49_2, hfz49_2, hcz49_3, hfz49_3, hcz49_4, hfz49_4, hcz49_5, hfz49_5⟩ := bk6 BK197.out
            go_wp2_with (first | ((with_reducible refine gate_callee (f := 55) rfl ?_); refine gL (some 52) rfl rfl Try.func55 (by kernel_rfl) rfl #[.agg #[.int .i64 a0_0, .int .i64 a0_1, .int .i64 a0_2, .slice A0_3 l0_3.length c0_3, .slice A0_4 l0_4.length c0_4, .int .i64 a0_5], .bool false, .bool false, .bool true, .bool false] rfl ?_; (with_reducible refine (spec_l3Zero.calls a0_0 a0_1 a0_2 _ _ l0_3 _ _ l0_4 a0_5 false false true false false _ ?side1 ?side2 ?side3 ?side4 A44.out).mono ?_); (case side1 => exact cB HR0_3.out HB.out); (case side2 => exact HC0_3.out); (case side3 => exact cB HR0_4.out HB.out); (case side4 => exact HC0_4.out); rintro e w50 ⟨rfl, hb⟩; refine ⟨_, rfl, ?_⟩; have _ := aM (kB BK197.out hb); have _ := aM (below_step (bS HB.out) hb); clear BK197 HB; rename_i BK197 HB; (try clear hb)))
            go_ret
            exact ⟨by first | rfl | (simp [errW_none, errW_some] <;> rfl) | (simp [*, errW_none, errW_some] <;> rfl), bS HB.out⟩
           subst c45
           rw [if_pos rfl] at H
           (try dsimp only at H)
           obtain rfl := Option.some.inj H
           obtain ⟨hcz46_0, hfz46_0, hcz46_1, hfz46_1, hcz46_2, hfz46_2, hcz46_3, hfz46_3, hcz46_4, hfz46_4, hcz46_5, hfz46_5⟩ := bk6 BK197.out
           go_wp2_with (first | ((with_reducible refine gate_callee (f := 55) rfl ?_); refine gL (some 52) rfl rfl Try.func55 (by kernel_rfl) rfl #[.agg #[.int .i64 a0_0, .int .i64 a0_1, .int .i64 a0_2, .slice A0_3 l0_3.length c0_3, .slice A0_4 l0_4.length c0_4, .int .i64 a0_5], .bool false, .bool false, .bool true, .bool false] rfl ?_; (with_reducible refine (spec_l3Zero.calls a0_0 a0_1 a0_2 _ _ l0_3 _ _ l0_4 a0_5 false false true false true _ ?side1 ?side2 ?side3 ?side4 A44.out).mono ?_); (case side1 => exact cB HR0_3.out HB.out); (case side2 => exact HC0_3.out); (case side3 => exact cB HR0_4.out HB.out); (case side4 => exact HC0_4.out); rintro e w47 ⟨rfl, hb⟩; refine ⟨_, rfl, ?_⟩; have _ := aM (kB BK197.out hb); have _ := aM (below_step (bS HB.out) hb); clear BK197 HB; rename_i BK197 HB; (try clear hb); obtain ⟨hcz48_0, hfz48_0, hcz48_1, hfz48_1, hcz48_2, hfz48_2, hcz48_3, hfz48_3, hcz48_4, hfz48_4, hcz48_5, hfz48_5⟩ := bk6 BK197.out))
           go_ret
           exact ⟨by first | rfl | (simp [errW_none, errW_some] <;> rfl) | (simp [*, errW_none, errW_some] <;> rfl), bS HB.out⟩
          ·rw [if_neg c43] at H
           have c43b0 : (a0_0 == 5) = false := beq_eq_false_iff_ne.mpr c43
           have c43b1 : (a0_0 != 5) = true := bne_iff_ne.mpr c43
           by_cases c51 : a0_0 = 6
           ·rw [if_pos c51] at H
            have c51b0 : (a0_0 == 6) = true := beq_iff_eq.mpr c51
            have c51b1 : (a0_0 != 6) = false := bne_eq_false_iff_eq.mpr c51
            clear c51
            replace H := Option.bind_eq_some_iff.mp H
            obtain ⟨t207, A520, H⟩ := H
            (try dsimp only at H)
            have A52 := aM A520
            clear A520
            by_cases c53 : t207 = true
            rotate_left
            ·replace c53 := Bool.eq_false_iff.mpr c53
             subst c53
             rw [if_neg (show ¬ (false = true) by decide)] at H
             (try dsimp only at H)
             obtain rfl := Option.some.inj H
             obtain ⟨hcz57_0, hfz57_0, hcz57_1, hfz57_1, hcz57_2, hfz57_2, hcz57_3, hfz57_3, hcz57_4, hfz57_4, hcz57_5, hfz57_5⟩ := bk6 BK197.out
             go_wp2_with (first | ((with_reducible refine gate_callee (f := 55) rfl ?_); refine gL (some 62) rfl rfl Try.func55 (by kernel_rfl) rfl #[.agg #[.int .i64 a0_0, .int .i64 a0_1, .int .i64 a0_2, .slice A0_3 l0_3.length c0_3, .slice A0_4 l0_4.length c0_4, .int .i64 a0_5], .bool false, .bool true, .bool false, .bool false] rfl ?_; (with_reducible refine (spec_l3Zero.calls a0_0 a0_1 a0_2 _ _ l0_3 _ _ l0_4 a0_5 false true false false false _ ?side1 ?side2 ?side3 ?side4 A52.out).mono ?_); (case side1 => exact cB HR0_3.out HB.out); (case side2 => exact HC0_3.out); (case side3 => exact cB HR0_4.out HB.out); (case side4 => exact HC0_4.out); rintro e w58 ⟨rfl, hb⟩; refine ⟨_, rfl, ?_⟩; have _ := aM (kB BK197.out hb); have _ := aM (below_step (bS HB.out) hb); clear BK197 HB; rename_i BK197 HB; (try clear hb)))
             go_ret
             exact ⟨by first | rfl | (simp [errW_none, errW_some] <;> rfl) | (simp [*, errW_none, errW_some] <;> rfl), bS HB.out⟩
            subst c53
            rw [if_pos rfl] at H
            (try dsimp only at H)
            obtain rfl := Option.some.inj H
            obtain ⟨hcz54_0, hfz54_0, hcz54_1, hfz54_1, hcz54_2, hfz54_2, hcz54_3, hfz54_3, hcz54_4, hfz54_4, hcz54_5, hfz54_5⟩ := bk6 BK197.out
            go_wp2_with (first | ((with_reducible refine gate_callee (f := 55) rfl ?_); refine gL (some 62) rfl rfl Try.func55 (by kernel_rfl) rfl #[.agg #[.int .i64 a0_0, .int .i64 a0_1, .int .i64 a0_2, .slice A0_3 l0_3.length c0_3, .slice A0_4 l0_4.length c0_4, .int .i64 a0_5], .bool false, .bool true, .bool false, .bool false] rfl ?_; (with_reducible refine (spec_l3Zero.calls a0_0 a0_1 a0_2 _ _ l0_3 _ _ l0_4 a0_5 false true false false true _ ?side1 ?side2 ?side3 ?side4 A52.out).mono ?_); (case side1 => exact cB HR0_3.out HB.out); (case side2 => exact HC0_3.out); (case side3 => exact cB HR0_4.out HB.out); (case side4 => exact HC0_4.out); rintro e w55 ⟨rfl, hb⟩; refine ⟨_, rfl, ?_⟩; have _ := aM (kB BK197.out hb); have _ := aM (below_step (bS HB.out) hb); clear BK197 HB; rename_i BK197 HB; (try clear hb); obtain ⟨hcz56_0, hfz56_0, hcz56_1, hfz56_1, hcz56_2, hfz56_2, hcz56_3, hfz56_3, hcz56_4, hfz56_4, hcz56_5, hfz56_5⟩ := bk6 BK197.out))
            go_ret
            exact ⟨by first | rfl | (simp [errW_none, errW_some] <;> rfl) | (simp [*, errW_none, errW_some] <;> rfl), bS HB.out⟩
           ·rw [if_neg c51] at H
            have c51b0 : (a0_0 == 6) = false := beq_eq_false_iff_ne.mpr c51
            have c51b1 : (a0_0 != 6) = true := bne_iff_ne.mpr c51
            by_cases c59 : a0_0 = 15
            ·rw [if_pos c59] at H
             have c59b0 : (a0_0 == 15) = true := beq_iff_eq.mpr c59
             have c59b1 : (a0_0 != 15) = false := bne_eq_false_iff_eq.mpr c59
             clear c59
             replace H := Option.bind_eq_some_iff.mp H
             obtain ⟨t208, A600, H⟩ := H
             (try dsimp only at H)
             have A60 := aM A600
             clear A600
             by_cases c61 : t208 = true
             rotate_left
             ·replace c61 := Bool.eq_false_iff.mpr c61
              subst c61
              rw [if_neg (show ¬ (false = true) by decide)] at H
              (try dsimp only at H)
              obtain rfl := Option.some.inj H
              obtain ⟨hcz71_0, hfz71_0, hcz71_1, hfz71_1, hcz71_2, hfz71_2, hcz71_3, hfz71_3, hcz71_4, hfz71_4, hcz71_5, hfz71_5⟩ := bk6 BK197.out
              go_wp2_with (first | ((with_reducible refine gate_callee (f := 55) rfl ?_); refine gL (some 72) rfl rfl Try.func55 (by kernel_rfl) rfl #[.agg #[.int .i64 a0_0, .int .i64 a0_1, .int .i64 a0_2, .slice A0_3 l0_3.length c0_3, .slice A0_4 l0_4.length c0_4, .int .i64 a0_5], .bool false, .bool false, .bool true, .bool false] rfl ?_; (with_reducible refine (spec_l3Zero.calls a0_0 a0_1 a0_2 _ _ l0_3 _ _ l0_4 a0_5 false false true false false _ ?side1 ?side2 ?side3 ?side4 A60.out).mono ?_); (case side1 => exact cB HR0_3.out HB.out); (case side2 => exact HC0_3.out); (case side3 => exact cB HR0_4.out HB.out); (case side4 => exact HC0_4.out); rintro e w72 ⟨rfl, hb⟩; refine ⟨_, rfl, ?_⟩; have _ := aM (kB BK197.out hb); have _ := aM (below_step (bS HB.out) hb); clear BK197 HB; rename_i BK197 HB; (try clear hb)))
              go_ret
              exact ⟨by first | rfl | (simp [errW_none, errW_some] <;> rfl) | (simp [*, errW_none, errW_some] <;> rfl), bS HB.out⟩
             subst c61
             rw [if_pos rfl] at H
             (try dsimp only at H)
             replace H := Option.bind_eq_some_iff.mp H
             obtain ⟨t209, A620, H⟩ := H
             (try dsimp only at H)
             have A62 := aM A620
             clear A620
             by_cases c63 : t209 = true
             rotate_left
             ·replace c63 := Bool.eq_false_iff.mpr c63
              subst c63
              rw [if_neg (show ¬ (false = true) by decide)] at H
              (try dsimp only at H)
              obtain rfl := Option.some.inj H
              obtain ⟨hcz68_0, hfz68_0, hcz68_1, hfz68_1, hcz68_2, hfz68_2, hcz68_3, hfz68_3, hcz68_4, hfz68_4, hcz68_5, hfz68_5⟩ := bk6 BK197.out
              go_wp2_with (first | ((with_reducible refine gate_callee (f := 55) rfl ?_); refine gL (some 72) rfl rfl Try.func55 (by kernel_rfl) rfl #[.agg #[.int .i64 a0_0, .int .i64 a0_1, .int .i64 a0_2, .slice A0_3 l0_3.length c0_3, .slice A0_4 l0_4.length c0_4, .int .i64 a0_5], .bool false, .bool false, .bool true, .bool false] rfl ?_; (with_reducible refine (spec_l3Zero.calls a0_0 a0_1 a0_2 _ _ l0_3 _ _ l0_4 a0_5 false false true false true _ ?side1 ?side2 ?side3 ?side4 A60.out).mono ?_); (case side1 => exact cB HR0_3.out HB.out); (case side2 => exact HC0_3.out); (case side3 => exact cB HR0_4.out HB.out); (case side4 => exact HC0_4.out); rintro e w69 ⟨rfl, hb⟩; refine ⟨_, rfl, ?_⟩; have _ := aM (kB BK197.out hb); have _ := aM (below_step (bS HB.out) hb); clear BK197 HB; rename_i BK197 HB; (try clear hb); obtain ⟨hcz70_0, hfz70_0, hcz70_1, hfz70_1, hcz70_2, hfz70_2, hcz70_3, hfz70_3, hcz70_4, hfz70_4, hcz70_5, hfz70_5⟩ := bk6 BK197.out) | (go_at_call 54; (with_reducible refine (spec_l1In.calls (l0_4.length : Int) 1 1968 false _ A62.out).mono ?_); rintro e w' ⟨rfl, ⟨nd, rfl⟩⟩))
              go_ret
              exact ⟨by first | rfl | (simp [errW_none, errW_some] <;> rfl) | (simp [*, errW_none, errW_some] <;> rfl), bS HB.out⟩
             subst c63
             rw [if_pos rfl] at H
             (try dsimp only at H)
             replace H := Option.bind_eq_some_iff.mp H
             obtain ⟨t210, A640, H⟩ := H
             (try dsimp only at H)
             have A64 := aM A640
             clear A640
             obtain rfl := Option.some.inj H
             obtain ⟨hcz65_0, hfz65_0, hcz65_1, hfz65_1, hcz65_2, hfz65_2, hcz65_3, hfz65_3, hcz65_4, hfz65_4, hcz65_5, hfz65_5⟩ := bk6 BK197.out
             go_wp2_with (first | ((with_reducible refine gate_callee (f := 55) rfl ?_); refine gL (some 72) rfl rfl Try.func55 (by kernel_rfl) rfl #[.agg #[.int .i64 a0_0, .int .i64 a0_1, .int .i64 a0_2, .slice A0_3 l0_3.length c0_3, .slice A0_4 l0_4.length c0_4, .int .i64 a0_5], .bool false, .bool false, .bool true, .bool false] rfl ?_; (with_reducible refine (spec_l3Zero.calls a0_0 a0_1 a0_2 _ _ l0_3 _ _ l0_4 a0_5 false false true false true _ ?side1 ?side2 ?side3 ?side4 A60.out).mono ?_); (case side1 => exact cB HR0_3.out HB.out); (case side2 => exact HC0_3.out); (case side3 => exact cB HR0_4.out HB.out); (case side4 => exact HC0_4.out); rintro e w66 ⟨rfl, hb⟩; refine ⟨_, rfl, ?_⟩; have _ := aM (kB BK197.out hb); have _ := aM (below_step (bS HB.out) hb); clear BK197 HB; rename_i BK197 HB; (try clear hb); obtain ⟨hcz67_0, hfz67_0, hcz67_1, hfz67_1, hcz67_2, hfz67_2, hcz67_3, hfz67_3, hcz67_4, hfz67_4, hcz67_5, hfz67_5⟩ := bk6 BK197.out) | (go_at_call 54; (with_reducible refine (spec_l1In.calls (l0_4.length : Int) 1 1968 true _ A62.out).mono ?_); rintro e w' ⟨rfl, ⟨nd, rfl⟩⟩) | (go_at_call 56; (with_reducible refine (spec_l3Fits.calls a0_1 (l0_4.length : Int) t210 _ A64.out).mono ?_); rintro e w' ⟨rfl, ⟨nd, rfl⟩⟩))
             go_ret
             exact ⟨by first | rfl | (simp [errW_none, errW_some] <;> rfl) | (simp [*, errW_none, errW_some] <;> rfl), bS HB.out⟩
            ·rw [if_neg c59] at H
             have c59b0 : (a0_0 == 15) = false := beq_eq_false_iff_ne.mpr c59
             have c59b1 : (a0_0 != 15) = true := bne_iff_ne.mpr c59
             by_cases c73 : a0_0 = 16
             ·rw [if_pos c73] at H
              have c73b0 : (a0_0 == 16) = true := beq_iff_eq.mpr c73
              have c73b1 : (a0_0 != 16) = false := bne_eq_false_iff_eq.mpr c73
              clear c73
              replace H := Option.bind_eq_some_iff.mp H
              obtain ⟨t211, A740, H⟩ := H
              (try dsimp only at H)
              have A74 := aM A740
              clear A740
              by_cases c75 : t211 = true
              rotate_left
              ·replace c75 := Bool.eq_false_iff.mpr c75
               subst c75
               rw [if_neg (show ¬ (false = true) by decide)] at H
               (try dsimp only at H)
               obtain rfl := Option.some.inj H
               obtain ⟨hcz85_0, hfz85_0, hcz85_1, hfz85_1, hcz85_2, hfz85_2, hcz85_3, hfz85_3, hcz85_4, hfz85_4, hcz85_5, hfz85_5⟩ := bk6 BK197.out
               go_wp2_with (first | ((with_reducible refine gate_callee (f := 55) rfl ?_); refine gL (some 90) rfl rfl Try.func55 (by kernel_rfl) rfl #[.agg #[.int .i64 a0_0, .int .i64 a0_1, .int .i64 a0_2, .slice A0_3 l0_3.length c0_3, .slice A0_4 l0_4.length c0_4, .int .i64 a0_5], .bool false, .bool true, .bool false, .bool false] rfl ?_; (with_reducible refine (spec_l3Zero.calls a0_0 a0_1 a0_2 _ _ l0_3 _ _ l0_4 a0_5 false true false false false _ ?side1 ?side2 ?side3 ?side4 A74.out).mono ?_); (case side1 => exact cB HR0_3.out HB.out); (case side2 => exact HC0_3.out); (case side3 => exact cB HR0_4.out HB.out); (case side4 => exact HC0_4.out); rintro e w86 ⟨rfl, hb⟩; refine ⟨_, rfl, ?_⟩; have _ := aM (kB BK197.out hb); have _ := aM (below_step (bS HB.out) hb); clear BK197 HB; rename_i BK197 HB; (try clear hb)))
               go_ret
               exact ⟨by first | rfl | (simp [errW_none, errW_some] <;> rfl) | (simp [*, errW_none, errW_some] <;> rfl), bS HB.out⟩
              subst c75
              rw [if_pos rfl] at H
              (try dsimp only at H)
              replace H := Option.bind_eq_some_iff.mp H
              obtain ⟨t212, A760, H⟩ := H
              (try dsimp only at H)
              have A76 := aM A760
              clear A760
              by_cases c77 : t212 = true
              rotate_left
              ·replace c77 := Bool.eq_false_iff.mpr c77
               subst c77
               rw [if_neg (show ¬ (false = true) by decide)] at H
               (try dsimp only at H)
               obtain rfl := Option.some.inj H
               obtain ⟨hcz82_0, hfz82_0, hcz82_1, hfz82_1, hcz82_2, hfz82_2, hcz82_3, hfz82_3, hcz82_4, hfz82_4, hcz82_5, hfz82_5⟩ := bk6 BK197.out
               go_wp2_with (first | ((with_reducible refine gate_callee (f := 55) rfl ?_); refine gL (some 90) rfl rfl Try.func55 (by kernel_rfl) rfl #[.agg #[.int .i64 a0_0, .int .i64 a0_1, .int .i64 a0_2, .slice A0_3 l0_3.length c0_3, .slice A0_4 l0_4.length c0_4, .int .i64 a0_5], .bool false, .bool true, .bool false, .bool false] rfl ?_; (with_reducible refine (spec_l3Zero.calls a0_0 a0_1 a0_2 _ _ l0_3 _ _ l0_4 a0_5 false true false false true _ ?side1 ?side2 ?side3 ?side4 A74.out).mono ?_); (case side1 => exact cB HR0_3.out HB.out); (case side2 => exact HC0_3.out); (case side3 => exact cB HR0_4.out HB.out); (case side4 => exact HC0_4.out); rintro e w83 ⟨rfl, hb⟩; refine ⟨_, rfl, ?_⟩; have _ := aM (kB BK197.out hb); have _ := aM (below_step (bS HB.out) hb); clear BK197 HB; rename_i BK197 HB; (try clear hb); obtain ⟨hcz84_0, hfz84_0, hcz84_1, hfz84_1, hcz84_2, hfz84_2, hcz84_3, hfz84_3, hcz84_4, hfz84_4, hcz84_5, hfz84_5⟩ := bk6 BK197.out) | (go_at_call 54; (with_reducible refine (spec_l1In.calls (l0_3.length : Int) 1 123 false _ A76.out).mono ?_); rintro e w' ⟨rfl, ⟨nd, rfl⟩⟩))
               go_ret
               exact ⟨by first | rfl | (simp [errW_none, errW_some] <;> rfl) | (simp [*, errW_none, errW_some] <;> rfl), bS HB.out⟩
              subst c77
              rw [if_pos rfl] at H
              (try dsimp only at H)
              replace H := Option.bind_eq_some_iff.mp H
              obtain ⟨t213, A780, H⟩ := H
              (try dsimp only at H)
              have A78 := aM A780
              clear A780
              obtain rfl := Option.some.inj H
              obtain ⟨hcz79_0, hfz79_0, hcz79_1, hfz79_1, hcz79_2, hfz79_2, hcz79_3, hfz79_3, hcz79_4, hfz79_4, hcz79_5, hfz79_5⟩ := bk6 BK197.out
              go_wp2_with (first | ((with_reducible refine gate_callee (f := 55) rfl ?_); refine gL (some 90) rfl rfl Try.func55 (by kernel_rfl) rfl #[.agg #[.int .i64 a0_0, .int .i64 a0_1, .int .i64 a0_2, .slice A0_3 l0_3.length c0_3, .slice A0_4 l0_4.length c0_4, .int .i64 a0_5], .bool false, .bool true, .bool false, .bool false] rfl ?_; (with_reducible refine (spec_l3Zero.calls a0_0 a0_1 a0_2 _ _ l0_3 _ _ l0_4 a0_5 false true false false true _ ?side1 ?side2 ?side3 ?side4 A74.out).mono ?_); (case side1 => exact cB HR0_3.out HB.out); (case side2 => exact HC0_3.out); (case side3 => exact cB HR0_4.out HB.out); (case side4 => exact HC0_4.out); rintro e w80 ⟨rfl, hb⟩; refine ⟨_, rfl, ?_⟩; have _ := aM (kB BK197.out hb); have _ := aM (below_step (bS HB.out) hb); clear BK197 HB; rename_i BK197 HB; (try clear hb); obtain ⟨hcz81_0, hfz81_0, hcz81_1, hfz81_1, hcz81_2, hfz81_2, hcz81_3, hfz81_3, hcz81_4, hfz81_4, hcz81_5, hfz81_5⟩ := bk6 BK197.out) | (go_at_call 54; (with_reducible refine (spec_l1In.calls (l0_3.length : Int) 1 123 true _ A76.out).mono ?_); rintro e w' ⟨rfl, ⟨nd, rfl⟩⟩) | (go_at_call 56; (with_reducible refine (spec_l3Fits.calls a0_1 (l0_3.length : Int) t213 _ A78.out).mono ?_); rintro e w' ⟨rfl, ⟨nd, rfl⟩⟩))
              go_ret
              exact ⟨by first | rfl | (simp [errW_none, errW_some] <;> rfl) | (simp [*, errW_none, errW_some] <;> rfl), bS HB.out⟩
             ·rw [if_neg c73] at H
              have c73b0 : (a0_0 == 16) = false := beq_eq_false_iff_ne.mpr c73
              have c73b1 : (a0_0 != 16) = true := bne_iff_ne.mpr c73
              by_cases c87 : a0_0 = 22
              ·rw [if_pos c87] at H
               have c87b0 : (a0_0 == 22) = true := beq_iff_eq.mpr c87
               have c87b1 : (a0_0 != 22) = false := bne_eq_false_iff_eq.mpr c87
               clear c87
               replace H := Option.bind_eq_some_iff.mp H
               obtain ⟨t214, A880, H⟩ := H
               (try dsimp only at H)
               have A88 := aM A880
               clear A880
               by_cases c89 : t214 = true
               rotate_left
               ·replace c89 := Bool.eq_false_iff.mpr c89
                subst c89
                rw [if_neg (show ¬ (false = true) by decide)] at H
                (try dsimp only at H)
                obtain rfl := Option.some.inj H
                obtain ⟨hcz93_0, hfz93_0, hcz93_1, hfz93_1, hcz93_2, hfz93_2, hcz93_3, hfz93_3, hcz93_4, hfz93_4, hcz93_5, hfz93_5⟩ := bk6 BK197.out
                go_wp2_with (first | ((with_reducible refine gate_callee (f := 55) rfl ?_); refine gL (some 108) rfl rfl Try.func55 (by kernel_rfl) rfl #[.agg #[.int .i64 a0_0, .int .i64 a0_1, .int .i64 a0_2, .slice A0_3 l0_3.length c0_3, .slice A0_4 l0_4.length c0_4, .int .i64 a0_5], .bool false, .bool true, .bool false, .bool false] rfl ?_; (with_reducible refine (spec_l3Zero.calls a0_0 a0_1 a0_2 _ _ l0_3 _ _ l0_4 a0_5 false true false false false _ ?side1 ?side2 ?side3 ?side4 A88.out).mono ?_); (case side1 => exact cB HR0_3.out HB.out); (case side2 => exact HC0_3.out); (case side3 => exact cB HR0_4.out HB.out); (case side4 => exact HC0_4.out); rintro e w94 ⟨rfl, hb⟩; refine ⟨_, rfl, ?_⟩; have _ := aM (kB BK197.out hb); have _ := aM (below_step (bS HB.out) hb); clear BK197 HB; rename_i BK197 HB; (try clear hb)))
                go_ret
                exact ⟨by first | rfl | (simp [errW_none, errW_some] <;> rfl) | (simp [*, errW_none, errW_some] <;> rfl), bS HB.out⟩
               subst c89
               rw [if_pos rfl] at H
               (try dsimp only at H)
               obtain rfl := Option.some.inj H
               obtain ⟨hcz90_0, hfz90_0, hcz90_1, hfz90_1, hcz90_2, hfz90_2, hcz90_3, hfz90_3, hcz90_4, hfz90_4, hcz90_5, hfz90_5⟩ := bk6 BK197.out
               go_wp2_with (first | ((with_reducible refine gate_callee (f := 55) rfl ?_); refine gL (some 108) rfl rfl Try.func55 (by kernel_rfl) rfl #[.agg #[.int .i64 a0_0, .int .i64 a0_1, .int .i64 a0_2, .slice A0_3 l0_3.length c0_3, .slice A0_4 l0_4.length c0_4, .int .i64 a0_5], .bool false, .bool true, .bool false, .bool false] rfl ?_; (with_reducible refine (spec_l3Zero.calls a0_0 a0_1 a0_2 _ _ l0_3 _ _ l0_4 a0_5 false true false false true _ ?side1 ?side2 ?side3 ?side4 A88.out).mono ?_); (case side1 => exact cB HR0_3.out HB.out); (case side2 => exact HC0_3.out); (case side3 => exact cB HR0_4.out HB.out); (case side4 => exact HC0_4.out); rintro e w91 ⟨rfl, hb⟩; refine ⟨_, rfl, ?_⟩; have _ := aM (kB BK197.out hb); have _ := aM (below_step (bS HB.out) hb); clear BK197 HB; rename_i BK197 HB; (try clear hb); obtain ⟨hcz92_0, hfz92_0, hcz92_1, hfz92_1, hcz92_2, hfz92_2, hcz92_3, hfz92_3, hcz92_4, hfz92_4, hcz92_5, hfz92_5⟩ := bk6 BK197.out))
               go_ret
               exact ⟨by first | rfl | (simp [errW_none, errW_some] <;> rfl) | (simp [*, errW_none, errW_some] <;> rfl), bS HB.out⟩
              ·rw [if_neg c87] at H
               have c87b0 : (a0_0 == 22) = false := beq_eq_false_iff_ne.mpr c87
               have c87b1 : (a0_0 != 22) = true := bne_iff_ne.mpr c87
               by_cases c95 : a0_0 = 23
               rotate_left
               ·rw [if_neg c95] at H
                have c95b0 : (a0_0 == 23) = false := beq_eq_false_iff_ne.mpr c95
                have c95b1 : (a0_0 != 23) = true := bne_iff_ne.mpr c95
                obtain rfl := Option.some.inj H
                go_wp2
                go_ret
                exact ⟨by first | rfl | (simp [errW_none, errW_some] <;> rfl) | (simp [*, errW_none, errW_some] <;> rfl), bS HB.out⟩
               rw [if_pos c95] at H
               have c95b0 : (a0_0 == 23) = true := beq_iff_eq.mpr c95
               have c95b1 : (a0_0 != 23) = false := bne_eq_false_iff_eq.mpr c95
               clear c95
               replace H := Option.bind_eq_some_iff.mp H
               obtain ⟨t215, A960, H⟩ := H
               (try dsimp only at H)
               have A96 := aM A960
               clear A960
               by_cases c97 : t215 = true
               rotate_left
               ·replace c97 := Bool.eq_false_iff.mpr c97
                subst c97
                rw [if_neg (show ¬ (false = true) by decide)] at H
                (try dsimp only at H)
                obtain rfl := Option.some.inj H
                obtain ⟨hcz117_0, hfz117_0, hcz117_1, hfz117_1, hcz117_2, hfz117_2, hcz117_3, hfz117_3, hcz117_4, hfz117_4, hcz117_5, hfz117_5⟩ := bk6 BK197.out
                go_wp2_with (first | ((with_reducible refine gate_callee (f := 55) rfl ?_); refine gL (some 118) rfl rfl Try.func55 (by kernel_rfl) rfl #[.agg #[.int .i64 a0_0, .int .i64 a0_1, .int .i64 a0_2, .slice A0_3 l0_3.length c0_3, .slice A0_4 l0_4.length c0_4, .int .i64 a0_5], .bool true, .bool true, .bool false, .bool true] rfl ?_; (with_reducible refine (spec_l3Zero.calls a0_0 a0_1 a0_2 _ _ l0_3 _ _ l0_4 a0_5 true true false true false _ ?side1 ?side2 ?side3 ?side4 A96.out).mono ?_); (case side1 => exact cB HR0_3.out HB.out); (case side2 => exact HC0_3.out); (case side3 => exact cB HR0_4.out HB.out); (case side4 => exact HC0_4.out); rintro e w118 ⟨rfl, hb⟩; refine ⟨_, rfl, ?_⟩; have _ := aM (kB BK197.out hb); have _ := aM (below_step (bS HB.out) hb); clear BK197 HB; rename_i BK197 HB; (try clear hb)))
                go_ret
                exact ⟨by first | rfl | (simp [errW_none, errW_some] <;> rfl) | (simp [*, errW_none, errW_some] <;> rfl), bS HB.out⟩
               subst c97
               rw [if_pos rfl] at H
               (try dsimp only at H)
               replace H := Option.bind_eq_some_iff.mp H
               obtain ⟨t216, A980, H⟩ := H
               (try dsimp only at H)
               have A98 := aM A980
               clear A980
               by_cases c99 : t216 = true
               rotate_left
               ·replace c99 := Bool.eq_false_iff.mpr c99
                subst c99
                rw [if_neg (show ¬ (false = true) by decide)] at H
                (try dsimp only at H)
                obtain rfl := Option.some.inj H
                obtain ⟨hcz114_0, hfz114_0, hcz114_1, hfz114_1, hcz114_2, hfz114_2, hcz114_3, hfz114_3, hcz114_4, hfz114_4, hcz114_5, hfz114_5⟩ := bk6 BK197.out
                go_wp2_with (first | ((with_reducible refine gate_callee (f := 55) rfl ?_); refine gL (some 118) rfl rfl Try.func55 (by kernel_rfl) rfl #[.agg #[.int .i64 a0_0, .int .i64 a0_1, .int .i64 a0_2, .slice A0_3 l0_3.length c0_3, .slice A0_4 l0_4.length c0_4, .int .i64 a0_5], .bool true, .bool true, .bool false, .bool true] rfl ?_; (with_reducible refine (spec_l3Zero.calls a0_0 a0_1 a0_2 _ _ l0_3 _ _ l0_4 a0_5 true true false true true _ ?side1 ?side2 ?side3 ?side4 A96.out).mono ?_); (case side1 => exact cB HR0_3.out HB.out); (case side2 => exact HC0_3.out); (case side3 => exact cB HR0_4.out HB.out); (case side4 => exact HC0_4.out); rintro e w115 ⟨rfl, hb⟩; refine ⟨_, rfl, ?_⟩; have _ := aM (kB BK197.out hb); have _ := aM (below_step (bS HB.out) hb); clear BK197 HB; rename_i BK197 HB; (try clear hb); obtain ⟨hcz116_0, hfz116_0, hcz116_1, hfz116_1, hcz116_2, hfz116_2, hcz116_3, hfz116_3, hcz116_4, hfz116_4, hcz116_5, hfz116_5⟩ := bk6 BK197.out) | (go_at_call 54; (with_reducible refine (spec_l1In.calls a0_2 1 125 false _ A98.out).mono ?_); rintro e w' ⟨rfl, ⟨nd, rfl⟩⟩))
                go_ret
                exact ⟨by first | rfl | (simp [errW_none, errW_some] <;> rfl) | (simp [*, errW_none, errW_some] <;> rfl), bS HB.out⟩
               subst c99
               rw [if_pos rfl] at H
               (try dsimp only at H)
               replace H := Option.bind_eq_some_iff.mp H
               obtain ⟨t217, A1000, H⟩ := H
               (try dsimp only at H)
               have A100 := aM A1000
               clear A1000
               by_cases c101 : t217 = true
               rotate_left
               ·replace c101 := Bool.eq_false_iff.mpr c101
                subst c101
                rw [if_neg (show ¬ (false = true) by decide)] at H
                (try dsimp only at H)
                obtain rfl := Option.some.inj H
                obtain ⟨hcz111_0, hfz111_0, hcz111_1, hfz111_1, hcz111_2, hfz111_2, hcz111_3, hfz111_3, hcz111_4, hfz111_4, hcz111_5, hfz111_5⟩ := bk6 BK197.out
                go_wp2_with (first | ((with_reducible refine gate_callee (f := 55) rfl ?_); refine gL (some 118) rfl rfl Try.func55 (by kernel_rfl) rfl #[.agg #[.int .i64 a0_0, .int .i64 a0_1, .int .i64 a0_2, .slice A0_3 l0_3.length c0_3, .slice A0_4 l0_4.length c0_4, .int .i64 a0_5], .bool true, .bool true, .bool false, .bool true] rfl ?_; (with_reducible refine (spec_l3Zero.calls a0_0 a0_1 a0_2 _ _ l0_3 _ _ l0_4 a0_5 true true false true true _ ?side1 ?side2 ?side3 ?side4 A96.out).mono ?_); (case side1 => exact cB HR0_3.out HB.out); (case side2 => exact HC0_3.out); (case side3 => exact cB HR0_4.out HB.out); (case side4 => exact HC0_4.out); rintro e w112 ⟨rfl, hb⟩; refine ⟨_, rfl, ?_⟩; have _ := aM (kB BK197.out hb); have _ := aM (below_step (bS HB.out) hb); clear BK197 HB; rename_i BK197 HB; (try clear hb); obtain ⟨hcz113_0, hfz113_0, hcz113_1, hfz113_1, hcz113_2, hfz113_2, hcz113_3, hfz113_3, hcz113_4, hfz113_4, hcz113_5, hfz113_5⟩ := bk6 BK197.out) | (go_at_call 54; (with_reducible refine (spec_l1In.calls a0_2 1 125 true _ A98.out).mono ?_); rintro e w' ⟨rfl, ⟨nd, rfl⟩⟩) | (go_at_call 56; (with_reducible refine (spec_l3Fits.calls a0_1 a0_2 false _ A100.out).mono ?_); rintro e w' ⟨rfl, ⟨nd, rfl⟩⟩))
                go_ret
                exact ⟨by first | rfl | (simp [errW_none, errW_some] <;> rfl) | (simp [*, errW_none, errW_some] <;> rfl), bS HB.out⟩
               subst c101
               rw [if_pos rfl] at H
               (try dsimp only at H)
               replace H := Option.bind_eq_some_iff.mp H
               obtain ⟨t218, A1020, H⟩ := H
               (try dsimp only at H)
               have A102 := aM A1020
               clear A1020
               by_cases c103 : t218 = true
               rotate_left
               ·replace c103 := Bool.eq_false_iff.mpr c103
                subst c103
                rw [if_neg (show ¬ (false = true) by decide)] at H
                (try dsimp only at H)
                obtain rfl := Option.some.inj H
                obtain ⟨hcz108_0, hfz108_0, hcz108_1, hfz108_1, hcz108_2, hfz108_2, hcz108_3, hfz108_3, hcz108_4, hfz108_4, hcz108_5, hfz108_5⟩ := bk6 BK197.out
                go_wp2_with (first | ((with_reducible refine gate_callee (f := 55) rfl ?_); refine gL (some 118) rfl rfl Try.func55 (by kernel_rfl) rfl #[.agg #[.int .i64 a0_0, .int .i64 a0_1, .int .i64 a0_2, .slice A0_3 l0_3.length c0_3, .slice A0_4 l0_4.length c0_4, .int .i64 a0_5], .bool true, .bool true, .bool false, .bool true] rfl ?_; (with_reducible refine (spec_l3Zero.calls a0_0 a0_1 a0_2 _ _ l0_3 _ _ l0_4 a0_5 true true false true true _ ?side1 ?side2 ?side3 ?side4 A96.out).mono ?_); (case side1 => exact cB HR0_3.out HB.out); (case side2 => exact HC0_3.out); (case side3 => exact cB HR0_4.out HB.out); (case side4 => exact HC0_4.out); rintro e w109 ⟨rfl, hb⟩; refine ⟨_, rfl, ?_⟩; have _ := aM (kB BK197.out hb); have _ := aM (below_step (bS HB.out) hb); clear BK197 HB; rename_i BK197 HB; (try clear hb); obtain ⟨hcz110_0, hfz110_0, hcz110_1, hfz110_1, hcz110_2, hfz110_2, hcz110_3, hfz110_3, hcz110_4, hfz110_4, hcz110_5, hfz110_5⟩ := bk6 BK197.out) | (go_at_call 54; (with_reducible refine (spec_l1In.calls a0_2 1 125 true _ A98.out).mono ?_); rintro e w' ⟨rfl, ⟨nd, rfl⟩⟩) | (go_at_call 56; (with_reducible refine (spec_l3Fits.calls a0_1 a0_2 true _ A100.out).mono ?_); rintro e w' ⟨rfl, ⟨nd, rfl⟩⟩) | (go_at_call 54; (with_reducible refine (spec_l1In.calls (l0_3.length : Int) 1 121 false _ A102.out).mono ?_); rintro e w' ⟨rfl, ⟨nd, rfl⟩⟩))
                go_ret
                exact ⟨by first | rfl | (simp [errW_none, errW_some] <;> rfl) | (simp [*, errW_none, errW_some] <;> rfl), bS HB.out⟩
               subst c103
               rw [if_pos rfl] at H
               (try dsimp only at H)
               replace H := Option.bind_eq_some_iff.mp H
               obtain ⟨t219, A1040, H⟩ := H
               (try dsimp only at H)
               have A104 := aM A1040
               clear A1040
               obtain rfl := Option.some.inj H
               obtain ⟨hcz105_0, hfz105_0, hcz105_1, hfz105_1, hcz105_2, hfz105_2, hcz105_3, hfz105_3, hcz105_4, hfz105_4, hcz105_5, hfz105_5⟩ := bk6 BK197.out
               go_wp2_with (first | ((with_reducible refine gate_callee (f := 55) rfl ?_); refine gL (some 118) rfl rfl Try.func55 (by kernel_rfl) rfl #[.agg #[.int .i64 a0_0, .int .i64 a0_1, .int .i64 a0_2, .slice A0_3 l0_3.length c0_3, .slice A0_4 l0_4.length c0_4, .int .i64 a0_5], .bool true, .bool true, .bool false, .bool true] rfl ?_; (with_reducible refine (spec_l3Zero.calls a0_0 a0_1 a0_2 _ _ l0_3 _ _ l0_4 a0_5 true true false true true _ ?side1 ?side2 ?side3 ?side4 A96.out).mono ?_); (case side1 => exact cB HR0_3.out HB.out); (case side2 => exact HC0_3.out); (case side3 => exact cB HR0_4.out HB.out); (case side4 => exact HC0_4.out); rintro e w106 ⟨rfl, hb⟩; refine ⟨_, rfl, ?_⟩; have _ := aM (kB BK197.out hb); have _ := aM (below_step (bS HB.out) hb); clear BK197 HB; rename_i BK197 HB; (try clear hb); obtain ⟨hcz107_0, hfz107_0, hcz107_1, hfz107_1, hcz107_2, hfz107_2, hcz107_3, hfz107_3, hcz107_4, hfz107_4, hcz107_5, hfz107_5⟩ := bk6 BK197.out) | (go_at_call 54; (with_reducible refine (spec_l1In.calls a0_2 1 125 true _ A98.out).mono ?_); rintro e w' ⟨rfl, ⟨nd, rfl⟩⟩) | (go_at_call 56; (with_reducible refine (spec_l3Fits.calls a0_1 a0_2 true _ A100.out).mono ?_); rintro e w' ⟨rfl, ⟨nd, rfl⟩⟩) | (go_at_call 54; (with_reducible refine (spec_l1In.calls (l0_3.length : Int) 1 121 true _ A102.out).mono ?_); rintro e w' ⟨rfl, ⟨nd, rfl⟩⟩) | (go_at_call 56; (with_reducible refine (spec_l3Fits.calls a0_5 (l0_3.length : Int) t219 _ A104.out).mono ?_); rintro e w' ⟨rfl, ⟨nd, rfl⟩⟩))
               go_ret
               exact ⟨by first | rfl | (simp [errW_none, errW_some] <;> rfl) | (simp [*, errW_none, errW_some] <;> rfl), bS HB.out⟩
/-! ### spec_Spaces: function 57 -/
mutual
def spec_Spaces.j0 : Nat → Int → Bool → Int → Int → Int → List Int → List Bool → Int → Option (Int × Int × Int)
 | 0, _, _, _, _, _, _, _, _ => none
 | k + 1, x9, x16, x225000, x225001, x225002, x225003, x225004, x225005 => if x16 = true then (some (0, x225001, (x225004.length : Int))) else (if x9 = 2 then (some (1, x225001, x225002)) else (if x9 = 4 then (some (3, x225001, x225002)) else (if x9 = 6 then (spec_Spaces.j1 k x9 (x9 == 6) x225000 x225001 x225002 x225003 x225004 x225005) else (spec_Spaces.j1 k x9 (x9 == 22) x225000 x225001 x225002 x225003 x225004 x225005))))
def spec_Spaces.j1 : Nat → Int → Bool → Int → Int → Int → List Int → List Bool → Int → Option (Int × Int × Int)
 | 0, _, _, _, _, _, _, _, _ => none
 | k + 1, x9, x36, x225000, x225001, x225002, x225003, x225004, x225005 => if x36 = true then (some (2, x225001, 1)) else (if x9 = 16 then (some (2, x225001, (x225003.length : Int))) else (some (2, x225001, x225002)))
end
def spec_Spaces.f (k : Nat) (a0_0 : Int) (a0_1 : Int) (a0_2 : Int) (l0_3 : List Int) (l0_4 : List Bool) (a0_5 : Int) : Option (Int × Int × Int) := (spec_ReqOk.f k a0_0 a0_1 a0_2 l0_3 l0_4 a0_5).bind fun t225 => (if t225 = true then (if a0_0 = 1 then (some (0, a0_1, a0_2)) else (if a0_0 = 5 then (spec_Spaces.j0 k a0_0 (a0_0 == 5) a0_0 a0_1 a0_2 l0_3 l0_4 a0_5) else (spec_Spaces.j0 k a0_0 (a0_0 == 15) a0_0 a0_1 a0_2 l0_3 l0_4 a0_5))) else (some ((-1), 0, 0)))
theorem spec_Spaces.mono_l : ∀ k, (∀ y0 y1 y2 y3 y4 y5 y6 y7, LeO (spec_Spaces.j0 k y0 y1 y2 y3 y4 y5 y6 y7) (spec_Spaces.j0 (k + 1) y0 y1 y2 y3 y4 y5 y6 y7)) ∧ (∀ y0 y1 y2 y3 y4 y5 y6 y7, LeO (spec_Spaces.j1 k y0 y1 y2 y3 y4 y5 y6 y7) (spec_Spaces.j1 (k + 1) y0 y1 y2 y3 y4 y5 y6 y7))
 | 0 => ⟨fun _ _ _ _ _ _ _ _ r h => by simp [spec_Spaces.j0] at h, fun _ _ _ _ _ _ _ _ r h => by simp [spec_Spaces.j1] at h⟩
 | k + 1 => by
  obtain ⟨ih0, ih1⟩ := spec_Spaces.mono_l k
  refine ⟨?_, ?_⟩
  ·intro y0 y1 y2 y3 y4 y5 y6 y7
   unfold spec_Spaces.j0
   repeat' first
   | (with_reducible exact ih0 _ _ _ _ _ _ _ _)
   | (with_reducible exact ih1 _ _ _ _ _ _ _ _)
   | (with_reducible exact spec_ReqOk.mono _ _ _ _ _ _ _)
   | (with_reducible exact LeO.refl _)
   | (with_reducible exact LeO.none _)
   | (with_reducible refine LeO.ite ?_ ?_)
   | (with_reducible refine LeO.bind ?_ (fun _ => ?_))
   | exact ih0 _ _ _ _ _ _ _ _
   | exact ih1 _ _ _ _ _ _ _ _
   | exact spec_ReqOk.mono _ _ _ _ _ _ _
   | exact LeO.none _
   | refine LeO.ite ?_ ?_
   | refine LeO.bind ?_ (fun _ => ?_)
  ·intro y0 y1 y2 y3 y4 y5 y6 y7
   unfold spec_Spaces.j1
   repeat' first
   | (with_reducible exact ih0 _ _ _ _ _ _ _ _)
   | (with_reducible exact ih1 _ _ _ _ _ _ _ _)
   | (with_reducible exact spec_ReqOk.mono _ _ _ _ _ _ _)
   | (with_reducible exact LeO.refl _)
   | (with_reducible exact LeO.none _)
   | (with_reducible refine LeO.ite ?_ ?_)
   | (with_reducible refine LeO.bind ?_ (fun _ => ?_))
   | exact ih0 _ _ _ _ _ _ _ _
   | exact ih1 _ _ _ _ _ _ _ _
   | exact spec_ReqOk.mono _ _ _ _ _ _ _
   | exact LeO.none _
   | refine LeO.ite ?_ ?_
   | refine LeO.bind ?_ (fun _ => ?_)
theorem spec_Spaces.mono : ∀ a0 a1 a2 a3 a4 a5 k, LeO (spec_Spaces.f k a0 a1 a2 a3 a4 a5) (spec_Spaces.f (k + 1) a0 a1 a2 a3 a4 a5) := by
 intro a0 a1 a2 a3 a4 a5 k
 obtain ⟨ih0, ih1⟩ := spec_Spaces.mono_l k
 unfold spec_Spaces.f
 repeat' first
   | (with_reducible exact ih0 _ _ _ _ _ _ _ _)
   | (with_reducible exact ih1 _ _ _ _ _ _ _ _)
   | (with_reducible exact spec_ReqOk.mono _ _ _ _ _ _ _)
   | (with_reducible exact LeO.refl _)
   | (with_reducible exact LeO.none _)
   | (with_reducible refine LeO.ite ?_ ?_)
   | (with_reducible refine LeO.bind ?_ (fun _ => ?_))
   | exact ih0 _ _ _ _ _ _ _ _
   | exact ih1 _ _ _ _ _ _ _ _
   | exact spec_ReqOk.mono _ _ _ _ _ _ _
   | exact LeO.none _
   | refine LeO.ite ?_ ?_
   | refine LeO.bind ?_ (fun _ => ?_)
set_option maxHeartbeats 8000000 in
set_option maxRecDepth 100000 in
theorem spec_Spaces.calls (k : Nat) (a0_0 : Int) (a0_1 : Int) (a0_2 : Int) (A0_3 : Option Addr) (c0_3 : Nat) (l0_3 : List Int) (A0_4 : Option Addr) (c0_4 : Nat) (l0_4 : List Bool) (a0_5 : Int) (r1 : Int) (r2 : Int) (r3 : Int) (w : World) (hr0_3 : Kd.C (Kd.int .i64) w A0_3 l0_3.length l0_3) (hc0_3 : l0_3.length ≤ c0_3) (hr0_4 : Kd.C Kd.bool w A0_4 l0_4.length l0_4) (hc0_4 : l0_4.length ≤ c0_4) (h : spec_Spaces.f k a0_0 a0_1 a0_2 l0_3 l0_4 a0_5 = some (r1, r2, r3)) :
  Calls Try.prog 57 #[.agg #[.int .i64 a0_0, .int .i64 a0_1, .int .i64 a0_2, .slice A0_3 l0_3.length c0_3, .slice A0_4 l0_4.length c0_4, .int .i64 a0_5]] w fun e w' => e = .returned (.tuple #[.int .i64 r1, .int .i64 r2, .int .i64 r3]) ∧ Below w.heap.size w w' := by
 have hu36 := Try.underlying36
 have HR0_3 := aM hr0_3
 have HC0_3 := aM hc0_3
 clear hr0_3 hc0_3
 have HR0_4 := aM hr0_4
 have HC0_4 := aM hc0_4
 clear hr0_4 hc0_4
 have HB := aM (Below.refl w.heap.size w)
 have H : ((spec_ReqOk.f k a0_0 a0_1 a0_2 l0_3 l0_4 a0_5).bind fun t225 => (if t225 = true then (if a0_0 = 1 then (some (0, a0_1, a0_2)) else (if a0_0 = 5 then (spec_Spaces.j0 k a0_0 (a0_0 == 5) a0_0 a0_1 a0_2 l0_3 l0_4 a0_5) else (spec_Spaces.j0 k a0_0 (a0_0 == 15) a0_0 a0_1 a0_2 l0_3 l0_4 a0_5))) else (some ((-1), 0, 0)))) = some (r1, r2, r3) := h
 clear h
 replace H := Option.bind_eq_some_iff.mp H
 obtain ⟨t225, A20, H⟩ := H
 (try dsimp only at H)
 have A2 := aM A20
 clear A20
 by_cases c3 : t225 = true
 rotate_left
 ·replace c3 := Bool.eq_false_iff.mpr c3
  subst c3
  rw [if_neg (show ¬ (false = true) by decide)] at H
  (try dsimp only at H)
  simp only [Option.some.injEq, Prod.mk.injEq] at H
  obtain ⟨rfl, rfl, rfl⟩ := H
  go_enter Try.func57, Try.ntmps57
  go_wp2_with (first | ((with_reducible refine gate_dst (N := 1) rfl ?_); refine box_event ?hg (N := 1) ?hd (cs := #[.int .i64 a0_0, .int .i64 a0_1, .int .i64 a0_2, .slice A0_3 l0_3.length c0_3, .slice A0_4 l0_4.length c0_4, .int .i64 a0_5]) (t := 36) ?hr ?_; (case hd => rfl); (case hg => rfl); (case hr => first | (go_simp; done) | (go_simp; rfl)); intro gb224 hg w28 hbox hb; have _ := aM (below_step (bS HB.out) hb); have _ := aM (hbox); have _ := aM (leG hg (bS HB.out)); have _ := aM (leG hg (bS HB.out)); clear HB; rename_i HB BK224 GW224 GE224; clear hb hbox hg; obtain ⟨hcz29_0, hfz29_0, hcz29_1, hfz29_1, hcz29_2, hfz29_2, hcz29_3, hfz29_3, hcz29_4, hfz29_4, hcz29_5, hfz29_5⟩ := bk6 BK224.out) | (go_at_call 32; (with_reducible refine (spec_ReqOk.calls k a0_0 a0_1 a0_2 _ _ l0_3 _ _ l0_4 a0_5 false _ ?side1 ?side2 ?side3 ?side4 A2.out).mono ?_); (case side1 => exact cB HR0_3.out HB.out); (case side2 => exact HC0_3.out); (case side3 => exact cB HR0_4.out HB.out); (case side4 => exact HC0_4.out); rintro e w30 ⟨rfl, hb⟩; have _ := aM (kB BK224.out hb); have _ := aM (below_step (bS HB.out) hb); clear BK224 HB; rename_i BK224 HB; (try clear hb)))
  repeat (go_quiet (first | ((with_reducible refine gate_dst (N := 1) rfl ?_); refine box_event ?hg (N := 1) ?hd (cs := #[.int .i64 a0_0, .int .i64 a0_1, .int .i64 a0_2, .slice A0_3 l0_3.length c0_3, .slice A0_4 l0_4.length c0_4, .int .i64 a0_5]) (t := 36) ?hr ?_; (case hd => rfl); (case hg => rfl); (case hr => first | (go_simp; done) | (go_simp; rfl)); intro gb224 hg w28 hbox hb; have _ := aM (below_step (bS HB.out) hb); have _ := aM (hbox); have _ := aM (leG hg (bS HB.out)); have _ := aM (leG hg (bS HB.out)); clear HB; rename_i HB BK224 GW224 GE224; clear hb hbox hg; obtain ⟨hcz29_0, hfz29_0, hcz29_1, hfz29_1, hcz29_2, hfz29_2, hcz29_3, hfz29_3, hcz29_4, hfz29_4, hcz29_5, hfz29_5⟩ := bk6 BK224.out) | (go_at_call 32; (with_reducible refine (spec_ReqOk.calls k a0_0 a0_1 a0_2 _ _ l0_3 _ _ l0_4 a0_5 false _ ?side1 ?side2 ?side3 ?side4 A2.out).mono ?_); (case side1 => exact cB HR0_3.out HB.out); (case side2 => exact HC0_3.out); (case side3 => exact cB HR0_4.out HB.out); (case side4 => exact HC0_4.out); rintro e w30 ⟨rfl, hb⟩; have _ := aM (kB BK224.out hb); have _ := aM (below_step (bS HB.out) hb); clear BK224 HB; rename_i BK224 HB; (try clear hb))); try go_wp2_with (first | ((with_reducible refine gate_dst (N := 1) rfl ?_); refine box_event ?hg (N := 1) ?hd (cs := #[.int .i64 a0_0, .int .i64 a0_1, .int .i64 a0_2, .slice A0_3 l0_3.length c0_3, .slice A0_4 l0_4.length c0_4, .int .i64 a0_5]) (t := 36) ?hr ?_; (case hd => rfl); (case hg => rfl); (case hr => first | (go_simp; done) | (go_simp; rfl)); intro gb224 hg w28 hbox hb; have _ := aM (below_step (bS HB.out) hb); have _ := aM (hbox); have _ := aM (leG hg (bS HB.out)); have _ := aM (leG hg (bS HB.out)); clear HB; rename_i HB BK224 GW224 GE224; clear hb hbox hg; obtain ⟨hcz29_0, hfz29_0, hcz29_1, hfz29_1, hcz29_2, hfz29_2, hcz29_3, hfz29_3, hcz29_4, hfz29_4, hcz29_5, hfz29_5⟩ := bk6 BK224.out) | (go_at_call 32; (with_reducible refine (spec_ReqOk.calls k a0_0 a0_1 a0_2 _ _ l0_3 _ _ l0_4 a0_5 false _ ?side1 ?side2 ?side3 ?side4 A2.out).mono ?_); (case side1 => exact cB HR0_3.out HB.out); (case side2 => exact HC0_3.out); (case side3 => exact cB HR0_4.out HB.out); (case side4 => exact HC0_4.out); rintro e w30 ⟨rfl, hb⟩; have _ := aM (kB BK224.out hb); have _ := aM (below_step (bS HB.out) hb); clear BK224 HB; rename_i BK224 HB; (try clear hb))))
  go_ret3
  exact ⟨by first | rfl | (simp [errW_none, errW_some] <;> rfl) | (simp [*, errW_none, errW_some] <;> rfl), bS HB.out⟩
 subst c3
 rw [if_pos rfl] at H
 (try dsimp only at H)
 by_cases c4 : a0_0 = 1
 ·rw [if_pos c4] at H
  have c4b0 : (a0_0 == 1) = true := beq_iff_eq.mpr c4
  have c4b1 : (a0_0 != 1) = false := bne_eq_false_iff_eq.mpr c4
  clear c4
  simp only [Option.some.injEq, Prod.mk.injEq] at H
  obtain ⟨rfl, rfl, rfl⟩ := H
  go_enter Try.func57, Try.ntmps57
  go_wp2_with (first | ((with_reducible refine gate_dst (N := 1) rfl ?_); refine box_event ?hg (N := 1) ?hd (cs := #[.int .i64 a0_0, .int .i64 a0_1, .int .i64 a0_2, .slice A0_3 l0_3.length c0_3, .slice A0_4 l0_4.length c0_4, .int .i64 a0_5]) (t := 36) ?hr ?_; (case hd => rfl); (case hg => rfl); (case hr => first | (go_simp; done) | (go_simp; rfl)); intro gb224 hg w5 hbox hb; have _ := aM (below_step (bS HB.out) hb); have _ := aM (hbox); have _ := aM (leG hg (bS HB.out)); have _ := aM (leG hg (bS HB.out)); clear HB; rename_i HB BK224 GW224 GE224; clear hb hbox hg; obtain ⟨hcz6_0, hfz6_0, hcz6_1, hfz6_1, hcz6_2, hfz6_2, hcz6_3, hfz6_3, hcz6_4, hfz6_4, hcz6_5, hfz6_5⟩ := bk6 BK224.out) | (go_at_call 32; (with_reducible refine (spec_ReqOk.calls k a0_0 a0_1 a0_2 _ _ l0_3 _ _ l0_4 a0_5 true _ ?side1 ?side2 ?side3 ?side4 A2.out).mono ?_); (case side1 => exact cB HR0_3.out HB.out); (case side2 => exact HC0_3.out); (case side3 => exact cB HR0_4.out HB.out); (case side4 => exact HC0_4.out); rintro e w7 ⟨rfl, hb⟩; have _ := aM (kB BK224.out hb); have _ := aM (below_step (bS HB.out) hb); clear BK224 HB; rename_i BK224 HB; (try clear hb); obtain ⟨hcz8_0, hfz8_0, hcz8_1, hfz8_1, hcz8_2, hfz8_2, hcz8_3, hfz8_3, hcz8_4, hfz8_4, hcz8_5, hfz8_5⟩ := bk6 BK224.out))
  repeat (go_quiet (first | ((with_reducible refine gate_dst (N := 1) rfl ?_); refine box_event ?hg (N := 1) ?hd (cs := #[.int .i64 a0_0, .int .i64 a0_1, .int .i64 a0_2, .slice A0_3 l0_3.length c0_3, .slice A0_4 l0_4.length c0_4, .int .i64 a0_5]) (t := 36) ?hr ?_; (case hd => rfl); (case hg => rfl); (case hr => first | (go_simp; done) | (go_simp; rfl)); intro gb224 hg w5 hbox hb; have _ := aM (below_step (bS HB.out) hb); have _ := aM (hbox); have _ := aM (leG hg (bS HB.out)); have _ := aM (leG hg (bS HB.out)); clear HB; rename_i HB BK224 GW224 GE224; clear hb hbox hg; obtain ⟨hcz6_0, hfz6_0, hcz6_1, hfz6_1, hcz6_2, hfz6_2, hcz6_3, hfz6_3, hcz6_4, hfz6_4, hcz6_5, hfz6_5⟩ := bk6 BK224.out) | (go_at_call 32; (with_reducible refine (spec_ReqOk.calls k a0_0 a0_1 a0_2 _ _ l0_3 _ _ l0_4 a0_5 true _ ?side1 ?side2 ?side3 ?side4 A2.out).mono ?_); (case side1 => exact cB HR0_3.out HB.out); (case side2 => exact HC0_3.out); (case side3 => exact cB HR0_4.out HB.out); (case side4 => exact HC0_4.out); rintro e w7 ⟨rfl, hb⟩; have _ := aM (kB BK224.out hb); have _ := aM (below_step (bS HB.out) hb); clear BK224 HB; rename_i BK224 HB; (try clear hb); obtain ⟨hcz8_0, hfz8_0, hcz8_1, hfz8_1, hcz8_2, hfz8_2, hcz8_3, hfz8_3, hcz8_4, hfz8_4, hcz8_5, hfz8_5⟩ := bk6 BK224.out)); try go_wp2_with (first | ((with_reducible refine gate_dst (N := 1) rfl ?_); refine box_event ?hg (N := 1) ?hd (cs := #[.int .i64 a0_0, .int .i64 a0_1, .int .i64 a0_2, .slice A0_3 l0_3.length c0_3, .slice A0_4 l0_4.length c0_4, .int .i64 a0_5]) (t := 36) ?hr ?_; (case hd => rfl); (case hg => rfl); (case hr => first | (go_simp; done) | (go_simp; rfl)); intro gb224 hg w5 hbox hb; have _ := aM (below_step (bS HB.out) hb); have _ := aM (hbox); have _ := aM (leG hg (bS HB.out)); have _ := aM (leG hg (bS HB.out)); clear HB; rename_i HB BK224 GW224 GE224; clear hb hbox hg; obtain ⟨hcz6_0, hfz6_0, hcz6_1, hfz6_1, hcz6_2, hfz6_2, hcz6_3, hfz6_3, hcz6_4, hfz6_4, hcz6_5, hfz6_5⟩ := bk6 BK224.out) | (go_at_call 32; (with_reducible refine (spec_ReqOk.calls k a0_0 a0_1 a0_2 _ _ l0_3 _ _ l0_4 a0_5 true _ ?side1 ?side2 ?side3 ?side4 A2.out).mono ?_); (case side1 => exact cB HR0_3.out HB.out); (case side2 => exact HC0_3.out); (case side3 => exact cB HR0_4.out HB.out); (case side4 => exact HC0_4.out); rintro e w7 ⟨rfl, hb⟩; have _ := aM (kB BK224.out hb); have _ := aM (below_step (bS HB.out) hb); clear BK224 HB; rename_i BK224 HB; (try clear hb); obtain ⟨hcz8_0, hfz8_0, hcz8_1, hfz8_1, hcz8_2, hfz8_2, hcz8_3, hfz8_3, hcz8_4, hfz8_4, hcz8_5, hfz8_5⟩ := bk6 BK224.out)))
  go_ret3
  exact ⟨by first | rfl | (simp [errW_none, errW_some] <;> rfl) | (simp [*, errW_none, errW_some] <;> rfl), bS HB.out⟩
 ·rw [if_neg c4] at H
  have c4b0 : (a0_0 == 1) = false := beq_eq_false_iff_ne.mpr c4
  have c4b1 : (a0_0 != 1) = true := bne_iff_ne.mpr c4
  have HC9 := aM H
  clear H
  go_enter Try.func57, Try.ntmps57
  go_upto_if 16 with (first | ((with_reducible refine gate_dst (N := 1) rfl ?_); refine box_event ?hg (N := 1) ?hd (cs := #[.int .i64 a0_0, .int .i64 a0_1, .int .i64 a0_2, .slice A0_3 l0_3.length c0_3, .slice A0_4 l0_4.length c0_4, .int .i64 a0_5]) (t := 36) ?hr ?_; (case hd => rfl); (case hg => rfl); (case hr => first | (go_simp; done) | (go_simp; rfl)); intro gb224 hg w10 hbox hb; have _ := aM (below_step (bS HB.out) hb); have _ := aM (hbox); have _ := aM (leG hg (bS HB.out)); have _ := aM (leG hg (bS HB.out)); clear HB; rename_i HB BK224 GW224 GE224; clear hb hbox hg; obtain ⟨hcz11_0, hfz11_0, hcz11_1, hfz11_1, hcz11_2, hfz11_2, hcz11_3, hfz11_3, hcz11_4, hfz11_4, hcz11_5, hfz11_5⟩ := bk6 BK224.out) | (go_at_call 32; (with_reducible refine (spec_ReqOk.calls k a0_0 a0_1 a0_2 _ _ l0_3 _ _ l0_4 a0_5 true _ ?side1 ?side2 ?side3 ?side4 A2.out).mono ?_); (case side1 => exact cB HR0_3.out HB.out); (case side2 => exact HC0_3.out); (case side3 => exact cB HR0_4.out HB.out); (case side4 => exact HC0_4.out); rintro e w12 ⟨rfl, hb⟩; have _ := aM (kB BK224.out hb); have _ := aM (below_step (bS HB.out) hb); clear BK224 HB; rename_i BK224 HB; (try clear hb); obtain ⟨hcz13_0, hfz13_0, hcz13_1, hfz13_1, hcz13_2, hfz13_2, hcz13_3, hfz13_3, hcz13_4, hfz13_4, hcz13_5, hfz13_5⟩ := bk6 BK224.out))
  repeat (go_quiet (first | ((with_reducible refine gate_dst (N := 1) rfl ?_); refine box_event ?hg (N := 1) ?hd (cs := #[.int .i64 a0_0, .int .i64 a0_1, .int .i64 a0_2, .slice A0_3 l0_3.length c0_3, .slice A0_4 l0_4.length c0_4, .int .i64 a0_5]) (t := 36) ?hr ?_; (case hd => rfl); (case hg => rfl); (case hr => first | (go_simp; done) | (go_simp; rfl)); intro gb224 hg w10 hbox hb; have _ := aM (below_step (bS HB.out) hb); have _ := aM (hbox); have _ := aM (leG hg (bS HB.out)); have _ := aM (leG hg (bS HB.out)); clear HB; rename_i HB BK224 GW224 GE224; clear hb hbox hg; obtain ⟨hcz11_0, hfz11_0, hcz11_1, hfz11_1, hcz11_2, hfz11_2, hcz11_3, hfz11_3, hcz11_4, hfz11_4, hcz11_5, hfz11_5⟩ := bk6 BK224.out) | (go_at_call 32; (with_reducible refine (spec_ReqOk.calls k a0_0 a0_1 a0_2 _ _ l0_3 _ _ l0_4 a0_5 true _ ?side1 ?side2 ?side3 ?side4 A2.out).mono ?_); (case side1 => exact cB HR0_3.out HB.out); (case side2 => exact HC0_3.out); (case side3 => exact cB HR0_4.out HB.out); (case side4 => exact HC0_4.out); rintro e w12 ⟨rfl, hb⟩; have _ := aM (kB BK224.out hb); have _ := aM (below_step (bS HB.out) hb); clear BK224 HB; rename_i BK224 HB; (try clear hb); obtain ⟨hcz13_0, hfz13_0, hcz13_1, hfz13_1, hcz13_2, hfz13_2, hcz13_3, hfz13_3, hcz13_4, hfz13_4, hcz13_5, hfz13_5⟩ := bk6 BK224.out)); go_upto_if 16 with (first | ((with_reducible refine gate_dst (N := 1) rfl ?_); refine box_event ?hg (N := 1) ?hd (cs := #[.int .i64 a0_0, .int .i64 a0_1, .int .i64 a0_2, .slice A0_3 l0_3.length c0_3, .slice A0_4 l0_4.length c0_4, .int .i64 a0_5]) (t := 36) ?hr ?_; (case hd => rfl); (case hg => rfl); (case hr => first | (go_simp; done) | (go_simp; rfl)); intro gb224 hg w10 hbox hb; have _ := aM (below_step (bS HB.out) hb); have _ := aM (hbox); have _ := aM (leG hg (bS HB.out)); have _ := aM (leG hg (bS HB.out)); clear HB; rename_i HB BK224 GW224 GE224; clear hb hbox hg; obtain ⟨hcz11_0, hfz11_0, hcz11_1, hfz11_1, hcz11_2, hfz11_2, hcz11_3, hfz11_3, hcz11_4, hfz11_4, hcz11_5, hfz11_5⟩ := bk6 BK224.out) | (go_at_call 32; (with_reducible refine (spec_ReqOk.calls k a0_0 a0_1 a0_2 _ _ l0_3 _ _ l0_4 a0_5 true _ ?side1 ?side2 ?side3 ?side4 A2.out).mono ?_); (case side1 => exact cB HR0_3.out HB.out); (case side2 => exact HC0_3.out); (case side3 => exact cB HR0_4.out HB.out); (case side4 => exact HC0_4.out); rintro e w12 ⟨rfl, hb⟩; have _ := aM (kB BK224.out hb); have _ := aM (below_step (bS HB.out) hb); clear BK224 HB; rename_i BK224 HB; (try clear hb); obtain ⟨hcz13_0, hfz13_0, hcz13_1, hfz13_1, hcz13_2, hfz13_2, hcz13_3, hfz13_3, hcz13_4, hfz13_4, hcz13_5, hfz13_5⟩ := bk6 BK224.out)))
  (try simp only [Act.put, List.setIfInBounds_toArray, List.set_cons_zero, List.set_cons_succ])
  go_cut [16] (fun v16 wc => ∃ (kq : Nat) (x16_8 : Bool), v16 = .bool x16_8 ∧ Aside0 (spec_Spaces.j0 kq a0_0 x16_8 a0_0 a0_1 a0_2 l0_3 l0_4 a0_5 = some (r1, r2, r3)) ∧ Aside0 (kq ≤ k) ∧ Aside0 (wc.heap[gb224]? = some (.cells #[.int .i64 a0_0, .int .i64 a0_1, .int .i64 a0_2, (.slice A0_3 l0_3.length c0_3), (.slice A0_4 l0_4.length c0_4), .int .i64 a0_5] 36 (0, 0))) ∧ Aside0 (Below w.heap.size w wc))
  case first =>
   have H := HC9.out
   clear HC9
   by_cases c14 : a0_0 = 5
   rotate_left
   ·rw [if_neg c14] at H
    have c14b0 : (a0_0 == 5) = false := beq_eq_false_iff_ne.mpr c14
    have c14b1 : (a0_0 != 5) = true := bne_iff_ne.mpr c14
    (first | rw [c14b0] | (simp only [i64_w, i32_w]; rw [c14b0]) | skip)
    have H' := aM H
    clear H
    go_wp2
    repeat (go_quiet (fail); try go_wp2)
    go_meet
    case rel => exact ⟨_, ((a0_0 == 15)), (by first | rfl | (simp; done) | (simp [*]; done)), H', ⟨by first | omega | exact Nat.le_refl _⟩, ⟨kX BK224.out⟩, ⟨bS HB.out⟩⟩
   rw [if_pos c14] at H
   have c14b0 : (a0_0 == 5) = true := beq_iff_eq.mpr c14
   have c14b1 : (a0_0 != 5) = false := bne_eq_false_iff_eq.mpr c14
   clear c14
   (first | rw [c14b0] | (simp only [i64_w, i32_w]; rw [c14b0]) | skip)
   have H' := aM H
   clear H
   go_wp2
   repeat (go_quiet (fail); try go_wp2)
   go_meet
   case rel => exact ⟨_, ((a0_0 == 5)), (by first | rfl | (simp; done) | (simp [*]; done)), H', ⟨by first | omega | exact Nat.le_refl _⟩, ⟨kX BK224.out⟩, ⟨bS HB.out⟩⟩
  case rest =>
   clear HC9
   try clear c3
   try clear c4
   try clear c4b0
   try clear c4b1
   try clear hcz11_0
   try clear hcz11_1
   try clear hcz11_2
   try clear hcz11_3
   try clear hcz11_4
   try clear hcz11_5
   try clear hcz13_0
   try clear hcz13_1
   try clear hcz13_2
   try clear hcz13_3
   try clear hcz13_4
   try clear hcz13_5
   try clear hcz6_0
   try clear hcz6_1
   try clear hcz6_2
   try clear hcz6_3
   try clear hcz6_4
   try clear hcz6_5
   try clear hcz8_0
   try clear hcz8_1
   try clear hcz8_2
   try clear hcz8_3
   try clear hcz8_4
   try clear hcz8_5
   try clear hfz11_0
   try clear hfz11_1
   try clear hfz11_2
   try clear hfz11_3
   try clear hfz11_4
   try clear hfz11_5
   try clear hfz13_0
   try clear hfz13_1
   try clear hfz13_2
   try clear hfz13_3
   try clear hfz13_4
   try clear hfz13_5
   try clear hfz6_0
   try clear hfz6_1
   try clear hfz6_2
   try clear hfz6_3
   try clear hfz6_4
   try clear hfz6_5
   try clear hfz8_0
   try clear hfz8_1
   try clear hfz8_2
   try clear hfz8_3
   try clear hfz8_4
   try clear hfz8_5
   obtain ⟨kq, x16_8, rfl, HA, HJ8, BK224, HB⟩ := hcut
   cases kq with
   | zero => exact absurd HA.out (by simp [spec_Spaces.j0])
   | succ kj8 =>
    have H := HA.out
    clear HA
    simp only [spec_Spaces.j0] at H
    by_cases c15 : x16_8 = true
    ·subst c15
     rw [if_pos rfl] at H
     (try dsimp only at H)
     simp only [Option.some.injEq, Prod.mk.injEq] at H
     obtain ⟨rfl, rfl, rfl⟩ := H
     obtain ⟨hcz16_0, hfz16_0, hcz16_1, hfz16_1, hcz16_2, hfz16_2, hcz16_3, hfz16_3, hcz16_4, hfz16_4, hcz16_5, hfz16_5⟩ := bk6 BK224.out
     go_wp2
     repeat (go_quiet (fail); try go_wp2)
     go_ret3
     exact ⟨by first | rfl | (simp [errW_none, errW_some] <;> rfl) | (simp [*, errW_none, errW_some] <;> rfl), bS HB.out⟩
    ·replace c15 := Bool.eq_false_iff.mpr c15
     subst c15
     rw [if_neg (show ¬ (false = true) by decide)] at H
     (try dsimp only at H)
     by_cases c17 : a0_0 = 2
     ·rw [if_pos c17] at H
      have c17b0 : (a0_0 == 2) = true := beq_iff_eq.mpr c17
      have c17b1 : (a0_0 != 2) = false := bne_eq_false_iff_eq.mpr c17
      clear c17
      simp only [Option.some.injEq, Prod.mk.injEq] at H
      obtain ⟨rfl, rfl, rfl⟩ := H
      obtain ⟨hcz18_0, hfz18_0, hcz18_1, hfz18_1, hcz18_2, hfz18_2, hcz18_3, hfz18_3, hcz18_4, hfz18_4, hcz18_5, hfz18_5⟩ := bk6 BK224.out
      go_wp2
      repeat (go_quiet (fail); try go_wp2)
      go_ret3
      exact ⟨by first | rfl | (simp [errW_none, errW_some] <;> rfl) | (simp [*, errW_none, errW_some] <;> rfl), bS HB.out⟩
     ·rw [if_neg c17] at H
      have c17b0 : (a0_0 == 2) = false := beq_eq_false_iff_ne.mpr c17
      have c17b1 : (a0_0 != 2) = true := bne_iff_ne.mpr c17
      by_cases c19 : a0_0 = 4
      ·rw [if_pos c19] at H
       have c19b0 : (a0_0 == 4) = true := beq_iff_eq.mpr c19
       have c19b1 : (a0_0 != 4) = false := bne_eq_false_iff_eq.mpr c19
       clear c19
       simp only [Option.some.injEq, Prod.mk.injEq] at H
       obtain ⟨rfl, rfl, rfl⟩ := H
       obtain ⟨hcz20_0, hfz20_0, hcz20_1, hfz20_1, hcz20_2, hfz20_2, hcz20_3, hfz20_3, hcz20_4, hfz20_4, hcz20_5, hfz20_5⟩ := bk6 BK224.out
       go_wp2
       repeat (go_quiet (fail); try go_wp2)
       go_ret3
       exact ⟨by first | rfl | (simp [errW_none, errW_some] <;> rfl) | (simp [*, errW_none, errW_some] <;> rfl), bS HB.out⟩
      ·rw [if_neg c19] at H
       have c19b0 : (a0_0 == 4) = false := beq_eq_false_iff_ne.mpr c19
       have c19b1 : (a0_0 != 4) = true := bne_iff_ne.mpr c19
       have HC21 := aM H
       clear H
       go_upto_if 36 with (fail)
       repeat (go_quiet (fail); go_upto_if 36 with (fail))
       go_cut [36] (fun v36 wc => ∃ (kq : Nat) (x36_20 : Bool), v36 = .bool x36_20 ∧ Aside0 (spec_Spaces.j1 kq a0_0 x36_20 a0_0 a0_1 a0_2 l0_3 l0_4 a0_5 = some (r1, r2, r3)) ∧ Aside0 (kq ≤ kj8) ∧ Aside0 (wc.heap[gb224]? = some (.cells #[.int .i64 a0_0, .int .i64 a0_1, .int .i64 a0_2, (.slice A0_3 l0_3.length c0_3), (.slice A0_4 l0_4.length c0_4), .int .i64 a0_5] 36 (0, 0))) ∧ Aside0 (Below w.heap.size w wc))
       case first =>
        have H := HC21.out
        clear HC21
        by_cases c22 : a0_0 = 6
        rotate_left
        ·rw [if_neg c22] at H
         have c22b0 : (a0_0 == 6) = false := beq_eq_false_iff_ne.mpr c22
         have c22b1 : (a0_0 != 6) = true := bne_iff_ne.mpr c22
         (first | rw [c22b0] | (simp only [i64_w, i32_w]; rw [c22b0]) | skip)
         have H' := aM H
         clear H
         go_wp2
         repeat (go_quiet (fail); try go_wp2)
         go_meet
         case rel => exact ⟨_, ((a0_0 == 22)), (by first | rfl | (simp; done) | (simp [*]; done)), H', ⟨by have := HJ8.out; first | omega | exact Nat.le_refl _⟩, ⟨kX BK224.out⟩, ⟨bS HB.out⟩⟩
        rw [if_pos c22] at H
        have c22b0 : (a0_0 == 6) = true := beq_iff_eq.mpr c22
        have c22b1 : (a0_0 != 6) = false := bne_eq_false_iff_eq.mpr c22
        clear c22
        (first | rw [c22b0] | (simp only [i64_w, i32_w]; rw [c22b0]) | skip)
        have H' := aM H
        clear H
        go_wp2
        repeat (go_quiet (fail); try go_wp2)
        go_meet
        case rel => exact ⟨_, ((a0_0 == 6)), (by first | rfl | (simp; done) | (simp [*]; done)), H', ⟨by have := HJ8.out; first | omega | exact Nat.le_refl _⟩, ⟨kX BK224.out⟩, ⟨bS HB.out⟩⟩
       case rest =>
        clear HC21
        try clear c1
        try clear p2
        try clear c3
        try clear c4
        try clear c4b0
        try clear c4b1
        try clear c5
        try clear c14
        try clear c14b0
        try clear c14b1
        try clear c15
        try clear c17
        try clear c17b0
        try clear c17b1
        try clear c19
        try clear c19b0
        try clear c19b1
        try clear hcz11_0
        try clear hcz11_1
        try clear hcz11_2
        try clear hcz11_3
        try clear hcz11_4
        try clear hcz11_5
        try clear hcz13_0
        try clear hcz13_1
        try clear hcz13_2
        try clear hcz13_3
        try clear hcz13_4
        try clear hcz13_5
        try clear hcz16_0
        try clear hcz16_1
        try clear hcz16_2
        try clear hcz16_3
        try clear hcz16_4
        try clear hcz16_5
        try clear hcz18_0
        try clear hcz18_1
        try clear hcz18_2
        try clear hcz18_3
        try clear hcz18_4
        try clear hcz18_5
        try clear hcz20_0
        try clear hcz20_1
        try clear hcz20_2
        try clear hcz20_3
        try clear hcz20_4
        try clear hcz20_5
        try clear hcz6_0
        try clear hcz6_1
        try clear hcz6_2
        try clear hcz6_3
        try clear hcz6_4
        try clear hcz6_5
        try clear hcz8_0
        try clear hcz8_1
        try clear hcz8_2
        try clear hcz8_3
        try clear hcz8_4
        try clear hcz8_5
        try clear hfz11_0
        try clear hfz11_1
        try clear hfz11_2
        try clear hfz11_3
        try clear hfz11_4
        try clear hfz11_5
        try clear hfz13_0
        try clear hfz13_1
        try clear hfz13_2
        try clear hfz13_3
        try clear hfz13_4
        try clear hfz13_5
        try clear hfz16_0
        try clear hfz16_1
        try clear hfz16_2
        try clear hfz16_3
        try clear hfz16_4
        try clear hfz16_5
        try clear hfz18_0
        try clear hfz18_1
        try clear hfz18_2
        try clear hfz18_3
        try clear hfz18_4
        try clear hfz18_5
        try clear hfz20_0
        try clear hfz20_1
        try clear hfz20_2
        try clear hfz20_3
        try clear hfz20_4
        try clear hfz20_5
        try clear hfz6_0
        try clear hfz6_1
        try clear hfz6_2
        try clear hfz6_3
        try clear hfz6_4
        try clear hfz6_5
        try clear hfz8_0
        try clear hfz8_1
        try clear hfz8_2
        try clear hfz8_3
        try clear hfz8_4
        try clear hfz8_5
        try clear p2
        obtain ⟨kq, x36_20, rfl, HA, HJ20, BK224, HB⟩ := hcut
        cases kq with
        | zero => exact absurd HA.out (by simp [spec_Spaces.j1])
        | succ kj20 =>
         have H := HA.out
         clear HA
         simp only [spec_Spaces.j1] at H
         by_cases c23 : x36_20 = true
         ·subst c23
          rw [if_pos rfl] at H
          (try dsimp only at H)
          simp only [Option.some.injEq, Prod.mk.injEq] at H
          obtain ⟨rfl, rfl, rfl⟩ := H
          obtain ⟨hcz24_0, hfz24_0, hcz24_1, hfz24_1, hcz24_2, hfz24_2, hcz24_3, hfz24_3, hcz24_4, hfz24_4, hcz24_5, hfz24_5⟩ := bk6 BK224.out
          go_wp2
          repeat (go_quiet (fail); try go_wp2)
          go_ret3
          exact ⟨by first | rfl | (simp [errW_none, errW_some] <;> rfl) | (simp [*, errW_none, errW_some] <;> rfl), bS HB.out⟩
         ·replace c23 := Bool.eq_false_iff.mpr c23
          subst c23
          rw [if_neg (show ¬ (false = true) by decide)] at H
          (try dsimp only at H)
          by_cases c25 : a0_0 = 16
          rotate_left
          ·rw [if_neg c25] at H
           have c25b0 : (a0_0 == 16) = false := beq_eq_false_iff_ne.mpr c25
           have c25b1 : (a0_0 != 16) = true := bne_iff_ne.mpr c25
           simp only [Option.some.injEq, Prod.mk.injEq] at H
           obtain ⟨rfl, rfl, rfl⟩ := H
           obtain ⟨hcz27_0, hfz27_0, hcz27_1, hfz27_1, hcz27_2, hfz27_2, hcz27_3, hfz27_3, hcz27_4, hfz27_4, hcz27_5, hfz27_5⟩ := bk6 BK224.out
           go_wp2
           repeat (go_quiet (fail); try go_wp2)
           go_ret3
           exact ⟨by first | rfl | (simp [errW_none, errW_some] <;> rfl) | (simp [*, errW_none, errW_some] <;> rfl), bS HB.out⟩
          rw [if_pos c25] at H
          have c25b0 : (a0_0 == 16) = true := beq_iff_eq.mpr c25
          have c25b1 : (a0_0 != 16) = false := bne_eq_false_iff_eq.mpr c25
          clear c25
          simp only [Option.some.injEq, Prod.mk.injEq] at H
          obtain ⟨rfl, rfl, rfl⟩ := H
          obtain ⟨hcz26_0, hfz26_0, hcz26_1, hfz26_1, hcz26_2, hfz26_2, hcz26_3, hfz26_3, hcz26_4, hfz26_4, hcz26_5, hfz26_5⟩ := bk6 BK224.out
          go_wp2
          repeat (go_quiet (fail); try go_wp2)
          go_ret3
          exact ⟨by first | rfl | (simp [errW_none, errW_some] <;> rfl) | (simp [*, errW_none, errW_some] <;> rfl), bS HB.out⟩
/-! ### spec_DeviceOk: function 31 -/
def spec_DeviceOk.f (k : Nat) (l0_0 : List Bool) (l0_1 : List Bool) (l0_2 : List Int) (l0_3 : List Int) : Option (Bool) := if (l0_0.length : Int) ≤ 64 then (if (l0_1.length : Int) ≤ 64 then (if (l0_2.length : Int) ≤ 64 then (if (l0_3.length : Int) ≤ 64 then ((spec_l3Words.f k l0_2).bind fun t193 => (if t193 = true then ((spec_l3Words.f k l0_3).bind fun t194 => (some t194)) else (some false))) else (some false)) else (some false)) else (some false)) else (some false)
theorem spec_DeviceOk.mono : ∀ a0 a1 a2 a3 k, LeO (spec_DeviceOk.f k a0 a1 a2 a3) (spec_DeviceOk.f (k + 1) a0 a1 a2 a3) := by
 intro a0 a1 a2 a3 k
 unfold spec_DeviceOk.f
 repeat' first
   | (with_reducible exact spec_l3Words.mono _ _)
   | (with_reducible exact LeO.refl _)
   | (with_reducible exact LeO.none _)
   | (with_reducible refine LeO.ite ?_ ?_)
   | (with_reducible refine LeO.bind ?_ (fun _ => ?_))
   | exact spec_l3Words.mono _ _
   | exact LeO.none _
   | refine LeO.ite ?_ ?_
   | refine LeO.bind ?_ (fun _ => ?_)
set_option maxHeartbeats 8000000 in
set_option maxRecDepth 100000 in
theorem spec_DeviceOk.calls (k : Nat) (A0_0 : Option Addr) (c0_0 : Nat) (l0_0 : List Bool) (A0_1 : Option Addr) (c0_1 : Nat) (l0_1 : List Bool) (A0_2 : Option Addr) (c0_2 : Nat) (l0_2 : List Int) (A0_3 : Option Addr) (c0_3 : Nat) (l0_3 : List Int) (r : Bool) (w : World) (hr0_0 : Kd.C Kd.bool w A0_0 l0_0.length l0_0) (hc0_0 : l0_0.length ≤ c0_0) (hr0_1 : Kd.C Kd.bool w A0_1 l0_1.length l0_1) (hc0_1 : l0_1.length ≤ c0_1) (hr0_2 : Kd.C (Kd.int .i64) w A0_2 l0_2.length l0_2) (hc0_2 : l0_2.length ≤ c0_2) (hr0_3 : Kd.C (Kd.int .i64) w A0_3 l0_3.length l0_3) (hc0_3 : l0_3.length ≤ c0_3) (h : spec_DeviceOk.f k l0_0 l0_1 l0_2 l0_3 = some r) :
  Calls Try.prog 31 #[.agg #[.slice A0_0 l0_0.length c0_0, .slice A0_1 l0_1.length c0_1, .slice A0_2 l0_2.length c0_2, .slice A0_3 l0_3.length c0_3]] w fun e w' => e = .returned (.bool r) ∧ Below w.heap.size w w' := by
 have hu30 := Try.underlying30
 have HR0_0 := aM hr0_0
 have HC0_0 := aM hc0_0
 clear hr0_0 hc0_0
 have HR0_1 := aM hr0_1
 have HC0_1 := aM hc0_1
 clear hr0_1 hc0_1
 have HR0_2 := aM hr0_2
 have HC0_2 := aM hc0_2
 clear hr0_2 hc0_2
 have HR0_3 := aM hr0_3
 have HC0_3 := aM hc0_3
 clear hr0_3 hc0_3
 have HB := aM (Below.refl w.heap.size w)
 have H : (if (l0_0.length : Int) ≤ 64 then (if (l0_1.length : Int) ≤ 64 then (if (l0_2.length : Int) ≤ 64 then (if (l0_3.length : Int) ≤ 64 then ((spec_l3Words.f k l0_2).bind fun t193 => (if t193 = true then ((spec_l3Words.f k l0_3).bind fun t194 => (some t194)) else (some false))) else (some false)) else (some false)) else (some false)) else (some false)) = some r := h
 clear h
 by_cases c2 : (l0_0.length : Int) ≤ 64
 rotate_left
 ·rw [if_neg c2] at H
  have c2b0 : decide ((l0_0.length : Int) ≤ 64) = false := decide_eq_false c2
  have c2b1 : decide (l0_0.length ≤ 64) = false := decide_eq_false (by omega)
  clear c2
  obtain rfl := Option.some.inj H
  go_enter Try.func31, Try.ntmps31
  go_wp2_with (first | ((with_reducible refine gate_dst (N := 1) rfl ?_); (try (refine gate_guard (by rfl) ?_; dsimp only)); refine box_event ?hg (N := 1) ?hd (cs := #[.slice A0_0 l0_0.length c0_0, .slice A0_1 l0_1.length c0_1, .slice A0_2 l0_2.length c0_2, .slice A0_3 l0_3.length c0_3]) (t := 30) ?hr ?_; (case hd => rfl); (case hg => rfl); (case hr => first | (go_simp; done) | (go_simp; rfl)); intro gb192 hg w19 hbox hb; have _ := aM (below_step (bS HB.out) hb); have _ := aM (hbox); have _ := aM (leG hg (bS HB.out)); have _ := aM (leG hg (bS HB.out)); clear HB; rename_i HB BK192 GW192 GE192; clear hb hbox hg; obtain ⟨hcz20_0, hfz20_0, hcz20_1, hfz20_1, hcz20_2, hfz20_2, hcz20_3, hfz20_3⟩ := bk4 BK192.out))
  go_ret
  exact ⟨by first | rfl | (simp [errW_none, errW_some] <;> rfl) | (simp [*, errW_none, errW_some] <;> rfl), bS HB.out⟩
 rw [if_pos c2] at H
 have c2b0 : decide ((l0_0.length : Int) ≤ 64) = true := decide_eq_true c2
 have c2b1 : decide (l0_0.length ≤ 64) = true := decide_eq_true (by omega)
 clear c2
 by_cases c3 : (l0_1.length : Int) ≤ 64
 rotate_left
 ·rw [if_neg c3] at H
  have c3b0 : decide ((l0_1.length : Int) ≤ 64) = false := decide_eq_false c3
  have c3b1 : decide (l0_1.length ≤ 64) = false := decide_eq_false (by omega)
  clear c3
  obtain rfl := Option.some.inj H
  go_enter Try.func31, Try.ntmps31
  go_wp2_with (first | ((with_reducible refine gate_dst (N := 1) rfl ?_); (try (refine gate_guard (by rfl) ?_; dsimp only)); refine box_event ?hg (N := 1) ?hd (cs := #[.slice A0_0 l0_0.length c0_0, .slice A0_1 l0_1.length c0_1, .slice A0_2 l0_2.length c0_2, .slice A0_3 l0_3.length c0_3]) (t := 30) ?hr ?_; (case hd => rfl); (case hg => rfl); (case hr => first | (go_simp; done) | (go_simp; rfl)); intro gb192 hg w17 hbox hb; have _ := aM (below_step (bS HB.out) hb); have _ := aM (hbox); have _ := aM (leG hg (bS HB.out)); have _ := aM (leG hg (bS HB.out)); clear HB; rename_i HB BK192 GW192 GE192; clear hb hbox hg; obtain ⟨hcz18_0, hfz18_0, hcz18_1, hfz18_1, hcz18_2, hfz18_2, hcz18_3, hfz18_3⟩ := bk4 BK192.out))
  go_ret
  exact ⟨by first | rfl | (simp [errW_none, errW_some] <;> rfl) | (simp [*, errW_none, errW_some] <;> rfl), bS HB.out⟩
 rw [if_pos c3] at H
 have c3b0 : decide ((l0_1.length : Int) ≤ 64) = true := decide_eq_true c3
 have c3b1 : decide (l0_1.length ≤ 64) = true := decide_eq_true (by omega)
 clear c3
 by_cases c4 : (l0_2.length : Int) ≤ 64
 rotate_left
 ·rw [if_neg c4] at H
  have c4b0 : decide ((l0_2.length : Int) ≤ 64) = false := decide_eq_false c4
  have c4b1 : decide (l0_2.length ≤ 64) = false := decide_eq_false (by omega)
  clear c4
  obtain rfl := Option.some.inj H
  go_enter Try.func31, Try.ntmps31
  go_wp2_with (first | ((with_reducible refine gate_dst (N := 1) rfl ?_); (try (refine gate_guard (by rfl) ?_; dsimp only)); refine box_event ?hg (N := 1) ?hd (cs := #[.slice A0_0 l0_0.length c0_0, .slice A0_1 l0_1.length c0_1, .slice A0_2 l0_2.length c0_2, .slice A0_3 l0_3.length c0_3]) (t := 30) ?hr ?_; (case hd => rfl); (case hg => rfl); (case hr => first | (go_simp; done) | (go_simp; rfl)); intro gb192 hg w15 hbox hb; have _ := aM (below_step (bS HB.out) hb); have _ := aM (hbox); have _ := aM (leG hg (bS HB.out)); have _ := aM (leG hg (bS HB.out)); clear HB; rename_i HB BK192 GW192 GE192; clear hb hbox hg; obtain ⟨hcz16_0, hfz16_0, hcz16_1, hfz16_1, hcz16_2, hfz16_2, hcz16_3, hfz16_3⟩ := bk4 BK192.out))
  go_ret
  exact ⟨by first | rfl | (simp [errW_none, errW_some] <;> rfl) | (simp [*, errW_none, errW_some] <;> rfl), bS HB.out⟩
 rw [if_pos c4] at H
 have c4b0 : decide ((l0_2.length : Int) ≤ 64) = true := decide_eq_true c4
 have c4b1 : decide (l0_2.length ≤ 64) = true := decide_eq_true (by omega)
 clear c4
 by_cases c5 : (l0_3.length : Int) ≤ 64
 rotate_left
 ·rw [if_neg c5] at H
  have c5b0 : decide ((l0_3.length : Int) ≤ 64) = false := decide_eq_false c5
  have c5b1 : decide (l0_3.length ≤ 64) = false := decide_eq_false (by omega)
  clear c5
  obtain rfl := Option.some.inj H
  go_enter Try.func31, Try.ntmps31
  go_wp2_with (first | ((with_reducible refine gate_dst (N := 1) rfl ?_); (try (refine gate_guard (by rfl) ?_; dsimp only)); refine box_event ?hg (N := 1) ?hd (cs := #[.slice A0_0 l0_0.length c0_0, .slice A0_1 l0_1.length c0_1, .slice A0_2 l0_2.length c0_2, .slice A0_3 l0_3.length c0_3]) (t := 30) ?hr ?_; (case hd => rfl); (case hg => rfl); (case hr => first | (go_simp; done) | (go_simp; rfl)); intro gb192 hg w13 hbox hb; have _ := aM (below_step (bS HB.out) hb); have _ := aM (hbox); have _ := aM (leG hg (bS HB.out)); have _ := aM (leG hg (bS HB.out)); clear HB; rename_i HB BK192 GW192 GE192; clear hb hbox hg; obtain ⟨hcz14_0, hfz14_0, hcz14_1, hfz14_1, hcz14_2, hfz14_2, hcz14_3, hfz14_3⟩ := bk4 BK192.out))
  go_ret
  exact ⟨by first | rfl | (simp [errW_none, errW_some] <;> rfl) | (simp [*, errW_none, errW_some] <;> rfl), bS HB.out⟩
 rw [if_pos c5] at H
 have c5b0 : decide ((l0_3.length : Int) ≤ 64) = true := decide_eq_true c5
 have c5b1 : decide (l0_3.length ≤ 64) = true := decide_eq_true (by omega)
 clear c5
 replace H := Option.bind_eq_some_iff.mp H
 obtain ⟨t193, A60, H⟩ := H
 (try dsimp only at H)
 have A6 := aM A60
 clear A60
 by_cases c7 : t193 = true
 rotate_left
 ·replace c7 := Bool.eq_false_iff.mpr c7
  subst c7
  rw [if_neg (show ¬ (false = true) by decide)] at H
  (try dsimp only at H)
  obtain rfl := Option.some.inj H
  go_enter Try.func31, Try.ntmps31
  go_wp2_with (first | ((with_reducible refine gate_dst (N := 1) rfl ?_); (try (refine gate_guard (by rfl) ?_; dsimp only)); refine box_event ?hg (N := 1) ?hd (cs := #[.slice A0_0 l0_0.length c0_0, .slice A0_1 l0_1.length c0_1, .slice A0_2 l0_2.length c0_2, .slice A0_3 l0_3.length c0_3]) (t := 30) ?hr ?_; (case hd => rfl); (case hg => rfl); (case hr => first | (go_simp; done) | (go_simp; rfl)); intro gb192 hg w11 hbox hb; have _ := aM (below_step (bS HB.out) hb); have _ := aM (hbox); have _ := aM (leG hg (bS HB.out)); have _ := aM (leG hg (bS HB.out)); clear HB; rename_i HB BK192 GW192 GE192; clear hb hbox hg; obtain ⟨hcz12_0, hfz12_0, hcz12_1, hfz12_1, hcz12_2, hfz12_2, hcz12_3, hfz12_3⟩ := bk4 BK192.out) | (go_at_call 53; (with_reducible refine (spec_l3Words.calls k _ _ l0_2 false _ ?side1 ?side2 A6.out).mono ?_); (case side1 => exact cB HR0_2.out HB.out); (case side2 => exact HC0_2.out); rintro e w' ⟨rfl, ⟨nd, rfl⟩⟩))
  go_ret
  exact ⟨by first | rfl | (simp [errW_none, errW_some] <;> rfl) | (simp [*, errW_none, errW_some] <;> rfl), bS HB.out⟩
 subst c7
 rw [if_pos rfl] at H
 (try dsimp only at H)
 replace H := Option.bind_eq_some_iff.mp H
 obtain ⟨t194, A80, H⟩ := H
 (try dsimp only at H)
 have A8 := aM A80
 clear A80
 obtain rfl := Option.some.inj H
 go_enter Try.func31, Try.ntmps31
 go_wp2_with (first | ((with_reducible refine gate_dst (N := 1) rfl ?_); (try (refine gate_guard (by rfl) ?_; dsimp only)); refine box_event ?hg (N := 1) ?hd (cs := #[.slice A0_0 l0_0.length c0_0, .slice A0_1 l0_1.length c0_1, .slice A0_2 l0_2.length c0_2, .slice A0_3 l0_3.length c0_3]) (t := 30) ?hr ?_; (case hd => rfl); (case hg => rfl); (case hr => first | (go_simp; done) | (go_simp; rfl)); intro gb192 hg w9 hbox hb; have _ := aM (below_step (bS HB.out) hb); have _ := aM (hbox); have _ := aM (leG hg (bS HB.out)); have _ := aM (leG hg (bS HB.out)); clear HB; rename_i HB BK192 GW192 GE192; clear hb hbox hg; obtain ⟨hcz10_0, hfz10_0, hcz10_1, hfz10_1, hcz10_2, hfz10_2, hcz10_3, hfz10_3⟩ := bk4 BK192.out) | (go_at_call 53; (with_reducible refine (spec_l3Words.calls k _ _ l0_2 true _ ?side1 ?side2 A6.out).mono ?_); (case side1 => exact cB HR0_2.out HB.out); (case side2 => exact HC0_2.out); rintro e w' ⟨rfl, ⟨nd, rfl⟩⟩) | (go_at_call 53; (with_reducible refine (spec_l3Words.calls k _ _ l0_3 t194 _ ?side1 ?side2 A8.out).mono ?_); (case side1 => repeat (first | exact (Kd.C_below HR0_3.out (bS HB.out)) | (with_reducible refine Kd.C_alloc ?_ _) | (with_reducible refine Kd.C_drewN ?_ _) | (with_reducible refine Kd.C_drew ?_))); (case side2 => exact HC0_3.out); rintro e w' ⟨rfl, ⟨nd, rfl⟩⟩))
 go_ret
 exact ⟨by first | rfl | (simp [errW_none, errW_some] <;> rfl) | (simp [*, errW_none, errW_some] <;> rfl), bS HB.out⟩
end Go.Proofs.Ytiogbjbkfhhdhaa.G
