/- Functions and contracts of the law FnTold: what the Go text computes, step by step. -/
import Derived.Test.YtfiplepbmennbaaM
import Derived.Test.YtfiplepbmennbaaL
import Derived.Test.YtfiplepbmennbaaQFnToldx0
import Derived.Test.YtfiplepbmennbaaQFnToldx3
namespace Go.Proofs.Ytfiplepbmennbaa.PFnTold
open Go.Proofs.Ytfiplepbmennbaa.K Go.Proofs.Ytfiplepbmennbaa.G Go.RowKit Go.Proofs.YtfiplepbmennbaaW.PrintWords Go.Proofs.YtfiplepbmennbaaW.PrintLast Go.Proofs.YtfiplepbmennbaaW.PrintMore
attribute [local go_sem] max2_int min2_int max_two min_two max_three min_three max_four min_four   -- for this text's walks alone
set_option linter.unusedVariables false
set_option linter.unusedSimpArgs false

/-! ### spec_l4Draw: function 85 -/
mutual
def spec_l4Draw.j0 : Nat → Int → Bool → List Int → Int → Int → Int → Int → Int → List Int → List Bool → Int → Int → Int → Int → Int → Option (Int × Int × Int × Int × List Int × List Bool × Int × Int)
 | 0, _, _, _, _, _, _, _, _, _, _, _, _, _, _, _ => none
 | k + 1, x18, x26, x1000, x1001, x1002, x198000, x198001, x198002, x198003, x198004, x198005, x206000, x206001, x206002, x206003 => if x26 = true then ((spec_l2Bits.f k x1000 x1001 x1002 x198002).bind fun bt206 => (spec_l4Draw.l0 k x1000 bt206.2.1 bt206.2.2 x206000 x206001 x206002 x206003 bt206.1)) else (if x18 = 3 then (spec_l4Draw.j2 k x18 (x18 == 3) x1000 x1001 x1002 x198000 x198001 x198002 x198003 x198004 x198005 x206000 x206001 x206002 x206003) else (if x18 = 4 then (spec_l4Draw.j2 k x18 (x18 == 4) x1000 x1001 x1002 x198000 x198001 x198002 x198003 x198004 x198005 x206000 x206001 x206002 x206003) else (spec_l4Draw.j2 k x18 (x18 == 23) x1000 x1001 x1002 x198000 x198001 x198002 x198003 x198004 x198005 x206000 x206001 x206002 x206003)))
def spec_l4Draw.l0 : Nat → List Int → Int → Int → Int → Int → Int → Int → List Bool → Option (Int × Int × Int × Int × List Int × List Bool × Int × Int)
 | 0, _, _, _, _, _, _, _, _ => none
 | k + 1, x1000, x1001, x1002, x206000, x206001, x206002, x206003, x206005 => if ((x206005.length : Int) % 8) = 0 then (some (x206000, x206001, x206002, x206003, ([] : List Int), x206005, x1001, x1002)) else (if x206005.length < 140737488355328 then (spec_l4Draw.l0 k x1000 x1001 x1002 x206000 x206001 x206002 x206003 (x206005 ++ [false])) else (none))
def spec_l4Draw.j2 : Nat → Int → Bool → List Int → Int → Int → Int → Int → Int → List Int → List Bool → Int → Int → Int → Int → Int → Option (Int × Int × Int × Int × List Int × List Bool × Int × Int)
 | 0, _, _, _, _, _, _, _, _, _, _, _, _, _, _, _ => none
 | k + 1, x18, x44, x1000, x1001, x1002, x198000, x198001, x198002, x198003, x198004, x198005, x206000, x206001, x206002, x206003 => if x44 = true then ((spec_l3List.f k x1000 x1001 x1002 x198002).bind fun bt214 => (some (x206000, x206001, x206002, x206003, bt214.1, ([] : List Bool), bt214.2.1, bt214.2.2))) else (if x18 = 5 then ((some (([] : List Bool) : List Bool)).bind fun y219 => (if y219.length + x198004.length < 140737488355328 then (some (x206000, x206001, x198001, x206003, ([] : List Int), (y219 ++ x198004), x1001, x1002)) else (none))) else (if x18 = 6 then (spec_l4Draw.j3 k x18 (x18 == 6) x1000 x1001 x1002 x198000 x198001 x198002 x198003 x198004 x198005 x206000 x206001 x206002 x206003) else (spec_l4Draw.j3 k x18 (x18 == 22) x1000 x1001 x1002 x198000 x198001 x198002 x198003 x198004 x198005 x206000 x206001 x206002 x206003)))
def spec_l4Draw.j3 : Nat → Int → Bool → List Int → Int → Int → Int → Int → Int → List Int → List Bool → Int → Int → Int → Int → Int → Option (Int × Int × Int × Int × List Int × List Bool × Int × Int)
 | 0, _, _, _, _, _, _, _, _, _, _, _, _, _, _, _ => none
 | k + 1, x18, x63, x1000, x1001, x1002, x198000, x198001, x198002, x198003, x198004, x198005, x206000, x206001, x206002, x206003 => if x63 = true then ((some (([] : List Int) : List Int)).bind fun y225 => (if y225.length + x198003.length < 17592186044416 then (some (x206000, x206001, x198001, x206003, (y225 ++ x198003), ([] : List Bool), x1001, x1002)) else (none))) else (if x18 = 15 then (some (x206000, x206001, x198001, (x198004.length : Int), ([] : List Int), ([] : List Bool), x1001, x1002)) else (some (x206000, x206001, x198001, (x198003.length : Int), ([] : List Int), ([] : List Bool), x1001, x1002)))
end
def spec_l4Draw.f (k : Nat) (s0_0 : List Int) (s0_1 : Int) (s0_2 : Int) (a1_0 : Int) (a1_1 : Int) (a1_2 : Int) (l1_3 : List Int) (l1_4 : List Bool) (a1_5 : Int) : Option (Int × Int × Int × Int × List Int × List Bool × Int × Int) := (spec_l1Once.f s0_0 s0_1 s0_2 6).bind fun bt199 => (if bt199.1 = true then ((spec_l1Below.f s0_0 bt199.2.1 bt199.2.2 11).bind fun bt202 => (some (a1_0, wrap64 (1 + bt202.1), 0, 0, ([] : List Int), ([] : List Bool), bt202.2.1, bt202.2.2))) else (if a1_0 = 1 then (spec_l4Draw.j0 k a1_0 (a1_0 == 1) s0_0 bt199.2.1 bt199.2.2 a1_0 a1_1 a1_2 l1_3 l1_4 a1_5 a1_0 0 0 0) else (spec_l4Draw.j0 k a1_0 (a1_0 == 2) s0_0 bt199.2.1 bt199.2.2 a1_0 a1_1 a1_2 l1_3 l1_4 a1_5 a1_0 0 0 0)))
theorem spec_l4Draw.mono_l : ∀ k, (∀ y0 y1 y2 y3 y4 y5 y6 y7 y8 y9 y10 y11 y12 y13 y14, LeO (spec_l4Draw.j0 k y0 y1 y2 y3 y4 y5 y6 y7 y8 y9 y10 y11 y12 y13 y14) (spec_l4Draw.j0 (k + 1) y0 y1 y2 y3 y4 y5 y6 y7 y8 y9 y10 y11 y12 y13 y14)) ∧ (∀ y0 y1 y2 y3 y4 y5 y6 y7, LeO (spec_l4Draw.l0 k y0 y1 y2 y3 y4 y5 y6 y7) (spec_l4Draw.l0 (k + 1) y0 y1 y2 y3 y4 y5 y6 y7)) ∧ (∀ y0 y1 y2 y3 y4 y5 y6 y7 y8 y9 y10 y11 y12 y13 y14, LeO (spec_l4Draw.j2 k y0 y1 y2 y3 y4 y5 y6 y7 y8 y9 y10 y11 y12 y13 y14) (spec_l4Draw.j2 (k + 1) y0 y1 y2 y3 y4 y5 y6 y7 y8 y9 y10 y11 y12 y13 y14)) ∧ (∀ y0 y1 y2 y3 y4 y5 y6 y7 y8 y9 y10 y11 y12 y13 y14, LeO (spec_l4Draw.j3 k y0 y1 y2 y3 y4 y5 y6 y7 y8 y9 y10 y11 y12 y13 y14) (spec_l4Draw.j3 (k + 1) y0 y1 y2 y3 y4 y5 y6 y7 y8 y9 y10 y11 y12 y13 y14))
 | 0 => ⟨fun _ _ _ _ _ _ _ _ _ _ _ _ _ _ _ r h => by simp [spec_l4Draw.j0] at h, fun _ _ _ _ _ _ _ _ r h => by simp [spec_l4Draw.l0] at h, fun _ _ _ _ _ _ _ _ _ _ _ _ _ _ _ r h => by simp [spec_l4Draw.j2] at h, fun _ _ _ _ _ _ _ _ _ _ _ _ _ _ _ r h => by simp [spec_l4Draw.j3] at h⟩
 | k + 1 => by
  obtain ⟨ih0, ih1, ih2, ih3⟩ := spec_l4Draw.mono_l k
  refine ⟨?_, ?_, ?_, ?_⟩
  ·intro y0 y1 y2 y3 y4 y5 y6 y7 y8 y9 y10 y11 y12 y13 y14
   unfold spec_l4Draw.j0
   repeat' first
   | (with_reducible exact ih0 _ _ _ _ _ _ _ _ _ _ _ _ _ _ _)
   | (with_reducible exact ih1 _ _ _ _ _ _ _ _)
   | (with_reducible exact ih2 _ _ _ _ _ _ _ _ _ _ _ _ _ _ _)
   | (with_reducible exact ih3 _ _ _ _ _ _ _ _ _ _ _ _ _ _ _)
   | (with_reducible exact spec_l2Bits.mono _ _ _ _ _)
   | (with_reducible exact spec_l3List.mono _ _ _ _ _)
   | (with_reducible exact LeO.refl _)
   | (with_reducible exact LeO.none _)
   | (with_reducible refine LeO.ite ?_ ?_)
   | (with_reducible refine LeO.bind ?_ (fun _ => ?_))
   | exact ih0 _ _ _ _ _ _ _ _ _ _ _ _ _ _ _
   | exact ih1 _ _ _ _ _ _ _ _
   | exact ih2 _ _ _ _ _ _ _ _ _ _ _ _ _ _ _
   | exact ih3 _ _ _ _ _ _ _ _ _ _ _ _ _ _ _
   | exact spec_l2Bits.mono _ _ _ _ _
   | exact spec_l3List.mono _ _ _ _ _
   | exact LeO.none _
   | refine LeO.ite ?_ ?_
   | refine LeO.bind ?_ (fun _ => ?_)
  ·intro y0 y1 y2 y3 y4 y5 y6 y7
   unfold spec_l4Draw.l0
   repeat' first
   | (with_reducible exact ih0 _ _ _ _ _ _ _ _ _ _ _ _ _ _ _)
   | (with_reducible exact ih1 _ _ _ _ _ _ _ _)
   | (with_reducible exact ih2 _ _ _ _ _ _ _ _ _ _ _ _ _ _ _)
   | (with_reducible exact ih3 _ _ _ _ _ _ _ _ _ _ _ _ _ _ _)
   | (with_reducible exact spec_l2Bits.mono _ _ _ _ _)
   | (with_reducible exact spec_l3List.mono _ _ _ _ _)
   | (with_reducible exact LeO.refl _)
   | (with_reducible exact LeO.none _)
   | (with_reducible refine LeO.ite ?_ ?_)
   | (with_reducible refine LeO.bind ?_ (fun _ => ?_))
   | exact ih0 _ _ _ _ _ _ _ _ _ _ _ _ _ _ _
   | exact ih1 _ _ _ _ _ _ _ _
   | exact ih2 _ _ _ _ _ _ _ _ _ _ _ _ _ _ _
   | exact ih3 _ _ _ _ _ _ _ _ _ _ _ _ _ _ _
   | exact spec_l2Bits.mono _ _ _ _ _
   | exact spec_l3List.mono _ _ _ _ _
   | exact LeO.none _
   | refine LeO.ite ?_ ?_
   | refine LeO.bind ?_ (fun _ => ?_)
  ·intro y0 y1 y2 y3 y4 y5 y6 y7 y8 y9 y10 y11 y12 y13 y14
   unfold spec_l4Draw.j2
   repeat' first
   | (with_reducible exact ih0 _ _ _ _ _ _ _ _ _ _ _ _ _ _ _)
   | (with_reducible exact ih1 _ _ _ _ _ _ _ _)
   | (with_reducible exact ih2 _ _ _ _ _ _ _ _ _ _ _ _ _ _ _)
   | (with_reducible exact ih3 _ _ _ _ _ _ _ _ _ _ _ _ _ _ _)
   | (with_reducible exact spec_l2Bits.mono _ _ _ _ _)
   | (with_reducible exact spec_l3List.mono _ _ _ _ _)
   | (with_reducible exact LeO.refl _)
   | (with_reducible exact LeO.none _)
   | (with_reducible refine LeO.ite ?_ ?_)
   | (with_reducible refine LeO.bind ?_ (fun _ => ?_))
   | exact ih0 _ _ _ _ _ _ _ _ _ _ _ _ _ _ _
   | exact ih1 _ _ _ _ _ _ _ _
   | exact ih2 _ _ _ _ _ _ _ _ _ _ _ _ _ _ _
   | exact ih3 _ _ _ _ _ _ _ _ _ _ _ _ _ _ _
   | exact spec_l2Bits.mono _ _ _ _ _
   | exact spec_l3List.mono _ _ _ _ _
   | exact LeO.none _
   | refine LeO.ite ?_ ?_
   | refine LeO.bind ?_ (fun _ => ?_)
  ·intro y0 y1 y2 y3 y4 y5 y6 y7 y8 y9 y10 y11 y12 y13 y14
   unfold spec_l4Draw.j3
   repeat' first
   | (with_reducible exact ih0 _ _ _ _ _ _ _ _ _ _ _ _ _ _ _)
   | (with_reducible exact ih1 _ _ _ _ _ _ _ _)
   | (with_reducible exact ih2 _ _ _ _ _ _ _ _ _ _ _ _ _ _ _)
   | (with_reducible exact ih3 _ _ _ _ _ _ _ _ _ _ _ _ _ _ _)
   | (with_reducible exact spec_l2Bits.mono _ _ _ _ _)
   | (with_reducible exact spec_l3List.mono _ _ _ _ _)
   | (with_reducible exact LeO.refl _)
   | (with_reducible exact LeO.none _)
   | (with_reducible refine LeO.ite ?_ ?_)
   | (with_reducible refine LeO.bind ?_ (fun _ => ?_))
   | exact ih0 _ _ _ _ _ _ _ _ _ _ _ _ _ _ _
   | exact ih1 _ _ _ _ _ _ _ _
   | exact ih2 _ _ _ _ _ _ _ _ _ _ _ _ _ _ _
   | exact ih3 _ _ _ _ _ _ _ _ _ _ _ _ _ _ _
   | exact spec_l2Bits.mono _ _ _ _ _
   | exact spec_l3List.mono _ _ _ _ _
   | exact LeO.none _
   | refine LeO.ite ?_ ?_
   | refine LeO.bind ?_ (fun _ => ?_)
theorem spec_l4Draw.mono : ∀ a0 a1 a2 a3 a4 a5 a6 a7 a8 k, LeO (spec_l4Draw.f k a0 a1 a2 a3 a4 a5 a6 a7 a8) (spec_l4Draw.f (k + 1) a0 a1 a2 a3 a4 a5 a6 a7 a8) := by
 intro a0 a1 a2 a3 a4 a5 a6 a7 a8 k
 obtain ⟨ih0, ih1, ih2, ih3⟩ := spec_l4Draw.mono_l k
 unfold spec_l4Draw.f
 repeat' first
   | (with_reducible exact ih0 _ _ _ _ _ _ _ _ _ _ _ _ _ _ _)
   | (with_reducible exact ih1 _ _ _ _ _ _ _ _)
   | (with_reducible exact ih2 _ _ _ _ _ _ _ _ _ _ _ _ _ _ _)
   | (with_reducible exact ih3 _ _ _ _ _ _ _ _ _ _ _ _ _ _ _)
   | (with_reducible exact spec_l2Bits.mono _ _ _ _ _)
   | (with_reducible exact spec_l3List.mono _ _ _ _ _)
   | (with_reducible exact LeO.refl _)
   | (with_reducible exact LeO.none _)
   | (with_reducible refine LeO.ite ?_ ?_)
   | (with_reducible refine LeO.bind ?_ (fun _ => ?_))
   | exact ih0 _ _ _ _ _ _ _ _ _ _ _ _ _ _ _
   | exact ih1 _ _ _ _ _ _ _ _
   | exact ih2 _ _ _ _ _ _ _ _ _ _ _ _ _ _ _
   | exact ih3 _ _ _ _ _ _ _ _ _ _ _ _ _ _ _
   | exact spec_l2Bits.mono _ _ _ _ _
   | exact spec_l3List.mono _ _ _ _ _
   | exact LeO.none _
   | refine LeO.ite ?_ ?_
   | refine LeO.bind ?_ (fun _ => ?_)
set_option maxHeartbeats 8000000 in
set_option maxRecDepth 100000 in
theorem spec_l4Draw.calls (k : Nat) (g : Nat) (s0_0 : List Int) (s0_1 : Int) (s0_2 : Int) (a1_0 : Int) (a1_1 : Int) (a1_2 : Int) (A1_3 : Option Addr) (c1_3 : Nat) (l1_3 : List Int) (A1_4 : Option Addr) (c1_4 : Nat) (l1_4 : List Bool) (a1_5 : Int) (r1 : Int) (r2 : Int) (r3 : Int) (r4 : Int) (r5 : List Int) (r6 : List Bool) (r7 : Int) (r8 : Int) (w0 w : World) (hI : IsS99 w0 w g s0_0 s0_1 s0_2) (hB : Below w0.heap.size w0 w) (hr1_3 : Kd.C (Kd.int .i64) w A1_3 l1_3.length l1_3) (hc1_3 : l1_3.length ≤ c1_3) (hf1_3 : ∀ ad, A1_3 = some ad → 0 < l1_3.length → ad.block ≠ g) (hr1_4 : Kd.C Kd.bool w A1_4 l1_4.length l1_4) (hc1_4 : l1_4.length ≤ c1_4) (hf1_4 : ∀ ad, A1_4 = some ad → 0 < l1_4.length → ad.block ≠ g) (h : spec_l4Draw.f k s0_0 s0_1 s0_2 a1_0 a1_1 a1_2 l1_3 l1_4 a1_5 = some (r1, r2, r3, r4, r5, r6, r7, r8)) :
  Calls Try.prog 85 #[.pointer (some ⟨g, 0, none⟩), .agg #[.int .i64 a1_0, .int .i64 a1_1, .int .i64 a1_2, .slice A1_3 l1_3.length c1_3, .slice A1_4 l1_4.length c1_4, .int .i64 a1_5]] w fun e w' => ∃ v4_ v5_ : Value, e = .returned (.agg #[.int .i64 r1, .int .i64 r2, .int .i64 r3, .int .i64 r4, v4_, v5_]) ∧ Kd.R (Kd.int .i64) 3 w' w.heap.size (fun _ => True) v4_ r5 ∧ Kd.R Kd.bool 4 w' w.heap.size (fun _ => True) v5_ r6 ∧ IsS99 w0 w' g s0_0 r7 r8 ∧ Below w0.heap.size w0 w' ∧ KeepBut w w' g none := by
 have hu48 := Try.underlying48
 have hu29 := Try.underlying29
 have HR1_3 := aM hr1_3
 have HC1_3 := aM hc1_3
 clear hr1_3 hc1_3
 have HR1_4 := aM hr1_4
 have HC1_4 := aM hc1_4
 clear hr1_4 hc1_4
 have HI0 := aM hI
 have HK := aM (KeepBut.refl w g none)
 have HL := aM hB.size
 clear hI
 have HW0 := aM hB.size
 have HB := aM hB
 clear hB
 have H : ((spec_l1Once.f s0_0 s0_1 s0_2 6).bind fun bt199 => (if bt199.1 = true then ((spec_l1Below.f s0_0 bt199.2.1 bt199.2.2 11).bind fun bt202 => (some (a1_0, wrap64 (1 + bt202.1), 0, 0, ([] : List Int), ([] : List Bool), bt202.2.1, bt202.2.2))) else (if a1_0 = 1 then (spec_l4Draw.j0 k a1_0 (a1_0 == 1) s0_0 bt199.2.1 bt199.2.2 a1_0 a1_1 a1_2 l1_3 l1_4 a1_5 a1_0 0 0 0) else (spec_l4Draw.j0 k a1_0 (a1_0 == 2) s0_0 bt199.2.1 bt199.2.2 a1_0 a1_1 a1_2 l1_3 l1_4 a1_5 a1_0 0 0 0)))) = some (r1, r2, r3, r4, r5, r6, r7, r8) := h
 clear h
 replace H := Option.bind_eq_some_iff.mp H
 obtain ⟨⟨t199, t200, t201⟩, A30, H⟩ := H
 (try dsimp only at H)
 have A3 := aM A30
 clear A30
 by_cases c4 : t199 = true
 ·subst c4
  rw [if_pos rfl] at H
  (try dsimp only at H)
  replace H := Option.bind_eq_some_iff.mp H
  obtain ⟨⟨t202, t203, t204⟩, A50, H⟩ := H
  (try dsimp only at H)
  have A5 := aM A50
  clear A50
  simp only [Option.some.injEq, Prod.mk.injEq] at H
  obtain ⟨rfl, rfl, rfl, rfl, rfl, rfl, rfl, rfl⟩ := H
  go_enter Try.func85, Try.ntmps85
  try go_wp2_with (first | ((with_reducible refine gate_dst (N := 3) rfl ?_); refine box_event ?hg (N := 3) ?hd (cs := #[.int .i64 a1_0, .int .i64 a1_1, .int .i64 a1_2, .slice A1_3 l1_3.length c1_3, .slice A1_4 l1_4.length c1_4, .int .i64 a1_5]) (t := 48) ?hr ?_; (case hd => rfl); (case hg => rfl); (case hr => first | (go_simp; done) | (go_simp; rfl)); intro gb197 hg w6 hbox hb; have _ := aM (IsS99.below sI99 hb); have _ := aM (KeepBut.trans (sG (w := w)) (KeepBut.of_below hb g none) (.inl rfl)); have _ := aM (below_step (sB99 (B := w0.heap.size) (w0 := w0)) hb); have _ := aM (hbox); have _ := aM ((by rw [hg]; exact (keep_size (w := w) (g := g) (row := none) (sG (w := w))) : w.heap.size ≤ gb197)); have _ := aM ((Nat.le_trans HW0.out (by rw [hg]; exact (keep_size (w := w) (g := g) (row := none) (sG (w := w))) : w.heap.size ≤ gb197) : w0.heap.size ≤ gb197)); have _ := aM ((by rw [hg]; exact Nat.ne_of_lt (IsS99.lt (show IsS99 w0 _ g s0_0 s0_1 s0_2 from sI99)) : g ≠ gb197)); have _ := aM ((by rw [hg]; exact Nat.ne_of_gt (IsS99.lt (show IsS99 w0 _ g s0_0 s0_1 s0_2 from sI99)) : gb197 ≠ g)); clear HI0 HK HB; rename_i HI0 HK HB BK197 GW197 GE197 NB0_197 NB197_0; clear hb hbox hg) | ((with_reducible refine gate_dst (N := 4) rfl ?_); refine box_event ?hg (N := 4) ?hd (cs := #[.int .i64 0, .int .i64 0, .int .i64 0, .int .i64 0, .slice none 0 0, .slice none 0 0]) (t := 29) ?hr ?_; (case hd => rfl); (case hg => rfl); (case hr => first | (go_simp; done) | (go_simp; rfl)); intro gb198 hg w7 hbox hb; have _ := aM (IsS99.below sI99 hb); have _ := aM (kB BK197.out hb); have _ := aM (KeepBut.trans (sG (w := w)) (KeepBut.of_below hb g none) (.inl rfl)); have _ := aM (below_step (sB99 (B := w0.heap.size) (w0 := w0)) hb); have _ := aM (hbox); have _ := aM ((by rw [hg]; exact (keep_size (w := w) (g := g) (row := none) (sG (w := w))) : w.heap.size ≤ gb198)); have _ := aM ((Nat.le_trans HW0.out (by rw [hg]; exact (keep_size (w := w) (g := g) (row := none) (sG (w := w))) : w.heap.size ≤ gb198) : w0.heap.size ≤ gb198)); have _ := aM (neL hg (kA BK197.out)); have _ := aM (neG hg (kA BK197.out)); have _ := aM ((by rw [hg]; exact Nat.ne_of_lt (IsS99.lt (show IsS99 w0 _ g s0_0 s0_1 s0_2 from sI99)) : g ≠ gb198)); have _ := aM ((by rw [hg]; exact Nat.ne_of_gt (IsS99.lt (show IsS99 w0 _ g s0_0 s0_1 s0_2 from sI99)) : gb198 ≠ g)); clear HI0 BK197 HK HB; rename_i HI0 BK197 HK HB BK198 GW198 GE198 NB197_198 NB198_197 NB0_198 NB198_0; clear hb hbox hg) | ((with_reducible refine gate_callee (f := 87) rfl ?_); refine gL (some 7) rfl rfl Try.func87 (by kernel_rfl) rfl #[.pointer (some ⟨g, 0, none⟩), .int .i64 6] rfl ?_; (with_reducible refine (spec_l1Once.calls g s0_0 s0_1 s0_2 6 true t200 t201 w0 _ ?side1 ?side2 A3.out).mono ?_); (case side1 => exact sI99); (case side2 => exact (sB99 (B := w0.heap.size) (w0 := w0))); rintro e w8 ⟨rfl, hi, hb, hk⟩; refine ⟨_, rfl, ?_⟩; have _ := aM (KeepBut.blk hk (g' := gb197) (o := .cells #[.int .i64 a1_0, .int .i64 a1_1, .int .i64 a1_2, .slice A1_3 l1_3.length c1_3, .slice A1_4 l1_4.length c1_4, .int .i64 a1_5] 48 (0, 0)) (kA BK197.out) NB197_0.out (by simp)); have _ := aM (KeepBut.blk hk (g' := gb198) (o := .cells #[.int .i64 0, .int .i64 0, .int .i64 0, .int .i64 0, .slice none 0 0, .slice none 0 0] 29 (0, 0)) (kA BK198.out) NB198_0.out (by simp)); have _ := aM (KeepBut.trans (sG (w := w)) hk (.inl rfl)); have _ := aM (hb); have _ := aM (hi); clear BK197 BK198 HK HB HI0; rename_i BK197 BK198 HK HB HI0; (try clear hb); (try clear hk); (try clear hi)))
  have n0_ := aM (blk_drew BK197.out)
  have n1_ := aM (blk_drew BK198.out)
  have n2_ := aM (IsS99.drew HI0.out)
  have n3_ := aM (keep_drew HK.out)
  have n4_ := aM (below_drew1 HB.out)
  clear BK197
  clear BK198
  clear HI0
  clear HK
  clear HB
  have BK197 := n0_
  have BK198 := n1_
  have HI0 := n2_
  have HK := n3_
  have HB := n4_
  clear n0_ n1_ n2_ n3_ n4_
  refine start_ (n := 7) (S := fun w' => w'.cell? ⟨gb197, 0, none⟩ = some (.int .i64 a1_0) ∧ w'.cell? ⟨gb197, 1, none⟩ = some (.int .i64 a1_1) ∧ w'.cell? ⟨gb197, 2, none⟩ = some (.int .i64 a1_2) ∧ w'.cell? ⟨gb197, 3, none⟩ = some (.slice A1_3 l1_3.length c1_3) ∧ w'.cell? ⟨gb197, 4, none⟩ = some (.slice A1_4 l1_4.length c1_4) ∧ w'.cell? ⟨gb197, 5, none⟩ = some (.int .i64 a1_5)) (ds := []) #[false, false, false, false, false, false, false] (by kernel_rfl) rfl rfl ⟨(blk_cell BK197.out 0).trans rfl, (blk_cell BK197.out 1).trans rfl, (blk_cell BK197.out 2).trans rfl, (blk_cell BK197.out 3).trans rfl, (blk_cell BK197.out 4).trans rfl, (blk_cell BK197.out 5).trans rfl⟩ (fun hHeld => ?_)
  generalize w8.drew = w9 at BK197 BK198 HI0 HK HB hHeld ⊢
  refine pure_ (i := 0) (N := some 8) (v := ?_) (a' := ?_) #[true, false, false, false, false, false, false] rfl rfl (by kernel_rfl) (fun _ _ _ h => h) (Or.inl ⟨by rfl, ?_⟩) ?_ ?_
  rotate_left
  ·intro w'
   go_simp
   with_reducible rfl
  rotate_left
  ·simp only [Act.put, List.setIfInBounds_toArray, List.set_cons_zero, List.set_cons_succ, i64_w, i32_w]
   rfl
  refine pure_ (i := 2) (N := some 10) (v := ?_) (a' := ?_) #[true, false, true, false, false, false, false] rfl rfl (by kernel_rfl) (fun _ _ _ h => h) (Or.inl ⟨by rfl, ?_⟩) ?_ ?_
  rotate_left
  ·intro w'
   go_simp
   with_reducible rfl
  rotate_left
  ·simp only [Act.put, List.setIfInBounds_toArray, List.set_cons_zero, List.set_cons_succ, i64_w, i32_w]
   rfl
  refine take_ (i := 1) (N := some 9) (v := ?_) (a' := ?_) #[true, true, true, false, false, false, false] rfl rfl (by kernel_rfl) (fun _ _ _ h => h) (Or.inl ⟨by rfl, ?_⟩) hHeld ?_ ?_
  rotate_left
  ·rintro w' ⟨s0, s1, s2, s3, s4, s5⟩
   go_simp
   with_reducible rfl
  rotate_left
  ·simp only [Act.put, List.setIfInBounds_toArray, List.set_cons_zero, List.set_cons_succ, i64_w, i32_w]
   rfl
  refine one_ (i := 3) (N := some 11) #[true, true, true, true, false, false, false] rfl rfl (by kernel_rfl) (by decide) (fun K hK => ?_)
  refine goes_ Try.func98 (by kernel_rfl) rfl #[.pointer (some ⟨g, 0, none⟩), .int .i64 11] (by rfl) rfl rfl (by (try simp only [List.map_toArray, List.map_cons, List.map_nil]); first | done | rfl | (simp only [List.length_drop, List.length_take]; rfl)) ?_
  with_reducible refine (spec_l1Below.calls g s0_0 t200 t201 11 t202 t203 t204 w0 _ ?side1 ?side2 A5.out).mono ?_
  (case side1 => exact sI99)
  (case side2 => exact (sB99 (B := w0.heap.size) (w0 := w0)))
  rintro e w10 ⟨rfl, hi, hb, hk⟩
  refine ⟨_, rfl, ?_⟩
  have n0_ := aM (KeepBut.blk hk (g' := gb197) (o := .cells #[.int .i64 a1_0, .int .i64 a1_1, .int .i64 a1_2, .slice A1_3 l1_3.length c1_3, .slice A1_4 l1_4.length c1_4, .int .i64 a1_5] 48 (0, 0)) (kA BK197.out) NB197_0.out (by simp))
  have n1_ := aM (KeepBut.blk hk (g' := gb198) (o := .cells #[.int .i64 0, .int .i64 0, .int .i64 0, .int .i64 0, .slice none 0 0, .slice none 0 0] 29 (0, 0)) (kA BK198.out) NB198_0.out (by simp))
  have n2_ := aM (KeepBut.trans (sG (w := w)) hk (.inl rfl))
  have n3_ := aM (hb)
  have n4_ := aM (hi)
  clear BK197
  clear BK198
  clear HK
  clear HB
  clear HI0
  have BK197 := n0_
  have BK198 := n1_
  have HK := n2_
  have HB := n3_
  have HI0 := n4_
  clear n0_ n1_ n2_ n3_ n4_
  (try clear hb)
  (try clear hb2)
  (try clear hk)
  (try clear hi)
  refine hK.out _ _ ⟨(blk_cell BK197.out 0).trans rfl, (blk_cell BK197.out 1).trans rfl, (blk_cell BK197.out 2).trans rfl, (blk_cell BK197.out 3).trans rfl, (blk_cell BK197.out 4).trans rfl, (blk_cell BK197.out 5).trans rfl⟩ (fun hHeld => ?_)
  clear hK K
  refine norm_ (a' := ?_) ?_ ?_
  rotate_left
  ·show Act.put _ (some 11) _ = _
   simp only [Act.put, List.setIfInBounds_toArray, List.set_cons_zero, List.set_cons_succ, i64_w, i32_w]
   rfl
  refine pure_ (i := 4) (N := some 12) (v := ?_) (a' := ?_) #[true, true, true, true, true, false, false] rfl rfl (by kernel_rfl) (fun _ _ _ h => h) (Or.inl ⟨by rfl, ?_⟩) ?_ ?_
  rotate_left
  ·intro w'
   go_simp
   with_reducible rfl
  rotate_left
  ·simp only [Act.put, List.setIfInBounds_toArray, List.set_cons_zero, List.set_cons_succ, i64_w, i32_w]
   rfl
  refine pure_ (i := 5) (N := some 13) (v := ?_) (a' := ?_) #[true, true, true, true, true, true, false] rfl rfl (by kernel_rfl) (fun _ _ _ h => h) (Or.inl ⟨by rfl, ?_⟩) ?_ ?_
  rotate_left
  ·intro w'
   go_simp
   with_reducible rfl
  rotate_left
  ·simp only [Act.put, List.setIfInBounds_toArray, List.set_cons_zero, List.set_cons_succ, i64_w, i32_w]
   rfl
  refine one_ (i := 6) (N := none) #[true, true, true, true, true, true, true] rfl rfl (by kernel_rfl) (by decide) (fun K hK => ?_)
  have hs11 : w10.cell? ⟨gb198, 0, none⟩ = some (.int .i64 0) := (blk_cell BK198.out 0).trans rfl
  have hfs11 := blk_frozen BK198.out 0
  have hns11_0 := NB197_198.out
  have hms11_0 := NB198_197.out
  have hs12 : w10.cell? ⟨gb198, 1, none⟩ = some (.int .i64 0) := (blk_cell BK198.out 1).trans rfl
  have hfs12 := blk_frozen BK198.out 1
  have hns12_0 := NB197_198.out
  have hms12_0 := NB198_197.out
  have hs13 : w10.cell? ⟨gb198, 2, none⟩ = some (.int .i64 0) := (blk_cell BK198.out 2).trans rfl
  have hfs13 := blk_frozen BK198.out 2
  have hns13_0 := NB197_198.out
  have hms13_0 := NB198_197.out
  have hs14 : w10.cell? ⟨gb198, 3, none⟩ = some (.int .i64 0) := (blk_cell BK198.out 3).trans rfl
  have hfs14 := blk_frozen BK198.out 3
  have hns14_0 := NB197_198.out
  have hms14_0 := NB198_197.out
  have hs15 : w10.cell? ⟨gb198, 4, none⟩ = some (.slice none 0 0) := (blk_cell BK198.out 4).trans rfl
  have hfs15 := blk_frozen BK198.out 4
  have hns15_0 := NB197_198.out
  have hms15_0 := NB198_197.out
  have hs16 : w10.cell? ⟨gb198, 5, none⟩ = some (.slice none 0 0) := (blk_cell BK198.out 5).trans rfl
  have hfs16 := blk_frozen BK198.out 5
  have hns16_0 := NB197_198.out
  have hms16_0 := NB198_197.out
  refine skip_ (w1 := ?_) (by rfl) rfl ?_ ?_
  rotate_left
  ·go_simp
   rfl
  refine hK.out _ _ ⟨((cell_far (p := ⟨gb198, _, none⟩) NB197_198.out _).trans (((cell_far (p := ⟨gb198, _, none⟩) NB197_198.out _).trans (((cell_far (p := ⟨gb198, _, none⟩) NB197_198.out _).trans (((cell_far (p := ⟨gb198, _, none⟩) NB197_198.out _).trans (((cell_far (p := ⟨gb198, _, none⟩) NB197_198.out _).trans (((cell_far (p := ⟨gb198, _, none⟩) NB197_198.out _).trans (hHeld.1)))))))))))), ((cell_far (p := ⟨gb198, _, none⟩) NB197_198.out _).trans (((cell_far (p := ⟨gb198, _, none⟩) NB197_198.out _).trans (((cell_far (p := ⟨gb198, _, none⟩) NB197_198.out _).trans (((cell_far (p := ⟨gb198, _, none⟩) NB197_198.out _).trans (((cell_far (p := ⟨gb198, _, none⟩) NB197_198.out _).trans (((cell_far (p := ⟨gb198, _, none⟩) NB197_198.out _).trans (hHeld.2.1)))))))))))), ((cell_far (p := ⟨gb198, _, none⟩) NB197_198.out _).trans (((cell_far (p := ⟨gb198, _, none⟩) NB197_198.out _).trans (((cell_far (p := ⟨gb198, _, none⟩) NB197_198.out _).trans (((cell_far (p := ⟨gb198, _, none⟩) NB197_198.out _).trans (((cell_far (p := ⟨gb198, _, none⟩) NB197_198.out _).trans (((cell_far (p := ⟨gb198, _, none⟩) NB197_198.out _).trans (hHeld.2.2.1)))))))))))), ((cell_far (p := ⟨gb198, _, none⟩) NB197_198.out _).trans (((cell_far (p := ⟨gb198, _, none⟩) NB197_198.out _).trans (((cell_far (p := ⟨gb198, _, none⟩) NB197_198.out _).trans (((cell_far (p := ⟨gb198, _, none⟩) NB197_198.out _).trans (((cell_far (p := ⟨gb198, _, none⟩) NB197_198.out _).trans (((cell_far (p := ⟨gb198, _, none⟩) NB197_198.out _).trans (hHeld.2.2.2.1)))))))))))), ((cell_far (p := ⟨gb198, _, none⟩) NB197_198.out _).trans (((cell_far (p := ⟨gb198, _, none⟩) NB197_198.out _).trans (((cell_far (p := ⟨gb198, _, none⟩) NB197_198.out _).trans (((cell_far (p := ⟨gb198, _, none⟩) NB197_198.out _).trans (((cell_far (p := ⟨gb198, _, none⟩) NB197_198.out _).trans (((cell_far (p := ⟨gb198, _, none⟩) NB197_198.out _).trans (hHeld.2.2.2.2.1)))))))))))), ((cell_far (p := ⟨gb198, _, none⟩) NB197_198.out _).trans (((cell_far (p := ⟨gb198, _, none⟩) NB197_198.out _).trans (((cell_far (p := ⟨gb198, _, none⟩) NB197_198.out _).trans (((cell_far (p := ⟨gb198, _, none⟩) NB197_198.out _).trans (((cell_far (p := ⟨gb198, _, none⟩) NB197_198.out _).trans (((cell_far (p := ⟨gb198, _, none⟩) NB197_198.out _).trans (hHeld.2.2.2.2.2))))))))))))⟩ (fun hHeld => ?_)
  clear hK K
  refine done_ (by kernel_rfl) ?_
  try go_wp2
  refine bodyPost_ret (results_cell_row rfl _ _ gb198 29 #[.int .i64 a1_0, .int .i64 (wrap64 (1 + t202)), .int .i64 0, .int .i64 0, .slice none 0 0, .slice none 0 0] (0, 0) _ rfl (kP6 BK198.out) Try.underlying29 rfl (by kernel_rfl)) rfl ?_
  exact ⟨_, _, by first | rfl | (simp [errW_none, errW_some] <;> rfl) | (simp [*, errW_none, errW_some] <;> rfl), by first | exact Kd.R_nil _ _ _ _ _ | exact Kd.N_nil _ _ _ _ _ | exact Kd.V_nil _ _ _ _ _ | exact Kd.Q_nil _ _ _ _ _ | exact Kd.S_nil _ _ _ _ _, by first | exact Kd.R_nil _ _ _ _ _ | exact Kd.N_nil _ _ _ _ _ | exact Kd.V_nil _ _ _ _ _ | exact Kd.Q_nil _ _ _ _ _ | exact Kd.S_nil _ _ _ _ _, sI99, (sB99 (B := w0.heap.size) (w0 := w0)), (sG (w := w))⟩
 ·replace c4 := Bool.eq_false_iff.mpr c4
  subst c4
  rw [if_neg (show ¬ (false = true) by decide)] at H
  (try dsimp only at H)
  have HC17 := aM H
  clear H
  go_enter Try.func85, Try.ntmps85
  go_upto_if 26 with (first | ((with_reducible refine gate_dst (N := 3) rfl ?_); refine box_event ?hg (N := 3) ?hd (cs := #[.int .i64 a1_0, .int .i64 a1_1, .int .i64 a1_2, .slice A1_3 l1_3.length c1_3, .slice A1_4 l1_4.length c1_4, .int .i64 a1_5]) (t := 48) ?hr ?_; (case hd => rfl); (case hg => rfl); (case hr => first | (go_simp; done) | (go_simp; rfl)); intro gb197 hg w18 hbox hb; have _ := aM (IsS99.below sI99 hb); have _ := aM (KeepBut.trans (sG (w := w)) (KeepBut.of_below hb g none) (.inl rfl)); have _ := aM (below_step (sB99 (B := w0.heap.size) (w0 := w0)) hb); have _ := aM (hbox); have _ := aM ((by rw [hg]; exact (keep_size (w := w) (g := g) (row := none) (sG (w := w))) : w.heap.size ≤ gb197)); have _ := aM ((Nat.le_trans HW0.out (by rw [hg]; exact (keep_size (w := w) (g := g) (row := none) (sG (w := w))) : w.heap.size ≤ gb197) : w0.heap.size ≤ gb197)); have _ := aM ((by rw [hg]; exact Nat.ne_of_lt (IsS99.lt (show IsS99 w0 _ g s0_0 s0_1 s0_2 from sI99)) : g ≠ gb197)); have _ := aM ((by rw [hg]; exact Nat.ne_of_gt (IsS99.lt (show IsS99 w0 _ g s0_0 s0_1 s0_2 from sI99)) : gb197 ≠ g)); clear HI0 HK HB; rename_i HI0 HK HB BK197 GW197 GE197 NB0_197 NB197_0; clear hb hbox hg) | ((with_reducible refine gate_dst (N := 4) rfl ?_); refine box_event ?hg (N := 4) ?hd (cs := #[.int .i64 0, .int .i64 0, .int .i64 0, .int .i64 0, .slice none 0 0, .slice none 0 0]) (t := 29) ?hr ?_; (case hd => rfl); (case hg => rfl); (case hr => first | (go_simp; done) | (go_simp; rfl)); intro gb198 hg w19 hbox hb; have _ := aM (IsS99.below sI99 hb); have _ := aM (kB BK197.out hb); have _ := aM (KeepBut.trans (sG (w := w)) (KeepBut.of_below hb g none) (.inl rfl)); have _ := aM (below_step (sB99 (B := w0.heap.size) (w0 := w0)) hb); have _ := aM (hbox); have _ := aM ((by rw [hg]; exact (keep_size (w := w) (g := g) (row := none) (sG (w := w))) : w.heap.size ≤ gb198)); have _ := aM ((Nat.le_trans HW0.out (by rw [hg]; exact (keep_size (w := w) (g := g) (row := none) (sG (w := w))) : w.heap.size ≤ gb198) : w0.heap.size ≤ gb198)); have _ := aM (neL hg (kA BK197.out)); have _ := aM (neG hg (kA BK197.out)); have _ := aM ((by rw [hg]; exact Nat.ne_of_lt (IsS99.lt (show IsS99 w0 _ g s0_0 s0_1 s0_2 from sI99)) : g ≠ gb198)); have _ := aM ((by rw [hg]; exact Nat.ne_of_gt (IsS99.lt (show IsS99 w0 _ g s0_0 s0_1 s0_2 from sI99)) : gb198 ≠ g)); clear HI0 BK197 HK HB; rename_i HI0 BK197 HK HB BK198 GW198 GE198 NB197_198 NB198_197 NB0_198 NB198_0; clear hb hbox hg) | ((with_reducible refine gate_callee (f := 87) rfl ?_); refine gL (some 7) rfl rfl Try.func87 (by kernel_rfl) rfl #[.pointer (some ⟨g, 0, none⟩), .int .i64 6] rfl ?_; (with_reducible refine (spec_l1Once.calls g s0_0 s0_1 s0_2 6 false t200 t201 w0 _ ?side1 ?side2 A3.out).mono ?_); (case side1 => exact sI99); (case side2 => exact (sB99 (B := w0.heap.size) (w0 := w0))); rintro e w20 ⟨rfl, hi, hb, hk⟩; refine ⟨_, rfl, ?_⟩; have _ := aM (KeepBut.blk hk (g' := gb197) (o := .cells #[.int .i64 a1_0, .int .i64 a1_1, .int .i64 a1_2, .slice A1_3 l1_3.length c1_3, .slice A1_4 l1_4.length c1_4, .int .i64 a1_5] 48 (0, 0)) (kA BK197.out) NB197_0.out (by simp)); have _ := aM (KeepBut.blk hk (g' := gb198) (o := .cells #[.int .i64 0, .int .i64 0, .int .i64 0, .int .i64 0, .slice none 0 0, .slice none 0 0] 29 (0, 0)) (kA BK198.out) NB198_0.out (by simp)); have _ := aM (KeepBut.trans (sG (w := w)) hk (.inl rfl)); have _ := aM (hb); have _ := aM (hi); clear BK197 BK198 HK HB HI0; rename_i BK197 BK198 HK HB HI0; (try clear hb); (try clear hk); (try clear hi); have hnb21 := NB197_198.out; have hnc21 := NB198_197.out; have hnb22 := NB197_0.out; have hnc22 := NB0_197.out; obtain ⟨hcz23_0, hfz23_0, hcz23_1, hfz23_1, hcz23_2, hfz23_2, hcz23_3, hfz23_3, hcz23_4, hfz23_4, hcz23_5, hfz23_5⟩ := bk6 BK197.out) | ((with_reducible refine gate_dst (N := 5) rfl ?_); refine box_event ?hg (N := 5) ?hd (cs := #[.int .i64 0, .int .i64 0, .int .i64 0, .int .i64 0, .slice none 0 0, .slice none 0 0]) (t := 29) ?hr ?_; (case hd => rfl); (case hg => rfl); (case hr => first | (go_simp; done) | (go_simp; rfl)); intro gb205 hg w24 hbox hb; have _ := aM (IsS99.below sI99 hb); have _ := aM (kB BK197.out hb); have _ := aM (kB BK198.out hb); have _ := aM (KeepBut.trans (sG (w := w)) (KeepBut.of_below hb g none) (.inl rfl)); have _ := aM (below_step (sB99 (B := w0.heap.size) (w0 := w0)) hb); have _ := aM (hbox); have _ := aM ((by rw [hg]; exact (keep_size (w := w) (g := g) (row := none) (sG (w := w))) : w.heap.size ≤ gb205)); have _ := aM ((Nat.le_trans HW0.out (by rw [hg]; exact (keep_size (w := w) (g := g) (row := none) (sG (w := w))) : w.heap.size ≤ gb205) : w0.heap.size ≤ gb205)); have _ := aM (neL hg (kA BK197.out)); have _ := aM (neG hg (kA BK197.out)); have _ := aM (neL hg (kA BK198.out)); have _ := aM (neG hg (kA BK198.out)); have _ := aM ((by rw [hg]; exact Nat.ne_of_lt (IsS99.lt (show IsS99 w0 _ g s0_0 t200 t201 from sI99)) : g ≠ gb205)); have _ := aM ((by rw [hg]; exact Nat.ne_of_gt (IsS99.lt (show IsS99 w0 _ g s0_0 t200 t201 from sI99)) : gb205 ≠ g)); clear HI0 BK197 BK198 HK HB; rename_i HI0 BK197 BK198 HK HB BK205 GW205 GE205 NB197_205 NB205_197 NB198_205 NB205_198 NB0_205 NB205_0; clear hb hbox hg; have hnb25 := NB205_197.out; have hnc25 := NB197_205.out; have hnb26 := NB205_198.out; have hnc26 := NB198_205.out; have hnb27 := NB205_0.out; have hnc27 := NB0_205.out; obtain ⟨hcz28_0, hfz28_0, hcz28_1, hfz28_1, hcz28_2, hfz28_2, hcz28_3, hfz28_3, hcz28_4, hfz28_4, hcz28_5, hfz28_5⟩ := bk6 BK205.out; obtain ⟨hcz29_0, hfz29_0, hcz29_1, hfz29_1, hcz29_2, hfz29_2, hcz29_3, hfz29_3, hcz29_4, hfz29_4, hcz29_5, hfz29_5⟩ := bk6 BK197.out))
  (try simp only [Act.put, List.setIfInBounds_toArray, List.set_cons_zero, List.set_cons_succ])
  go_cut [26] (fun v26 wc => ∃ (kq : Nat) (x26_16 : Bool), v26 = .bool x26_16 ∧ Aside0 (spec_l4Draw.j0 kq a1_0 x26_16 s0_0 t200 t201 a1_0 a1_1 a1_2 l1_3 l1_4 a1_5 a1_0 0 0 0 = some (r1, r2, r3, r4, r5, r6, r7, r8)) ∧ Aside0 (kq ≤ k) ∧ Aside0 (wc.heap[gb197]? = some (.cells #[.int .i64 a1_0, .int .i64 a1_1, .int .i64 a1_2, (.slice A1_3 l1_3.length c1_3), (.slice A1_4 l1_4.length c1_4), .int .i64 a1_5] 48 (0, 0))) ∧ Aside0 (wc.heap[gb198]? = some (.cells #[.int .i64 0, .int .i64 0, .int .i64 0, .int .i64 0, (.slice none 0 0), (.slice none 0 0)] 29 (0, 0))) ∧ Aside0 (wc.heap[gb205]? = some (.cells #[.int .i64 a1_0, .int .i64 0, .int .i64 0, .int .i64 0, (.slice none 0 0), (.slice none 0 0)] 29 (0, 0))) ∧ Aside0 (IsS99 w0 wc g s0_0 t200 t201) ∧ Aside0 (KeepBut w wc g none) ∧ Aside0 (Below w0.heap.size w0 wc))
  case first =>
   have H := HC17.out
   clear HC17
   by_cases c30 : a1_0 = 1
   rotate_left
   ·rw [if_neg c30] at H
    have c30b0 : (a1_0 == 1) = false := beq_eq_false_iff_ne.mpr c30
    have c30b1 : (a1_0 != 1) = true := bne_iff_ne.mpr c30
    (first | rw [c30b0] | (simp only [i64_w, i32_w]; rw [c30b0]) | skip)
    have H' := aM H
    clear H
    go_wp2
    go_meet
    case rel => exact ⟨_, ((a1_0 == 2)), (by first | rfl | (simp; done) | (simp [*]; done)), H', ⟨by first | omega | exact Nat.le_refl _⟩, ⟨kX BK197.out⟩, ⟨kX BK198.out⟩, ⟨kX BK205.out⟩, ⟨sI99⟩, ⟨(sG (w := w))⟩, ⟨(sB99 (B := w0.heap.size) (w0 := w0))⟩⟩
   rw [if_pos c30] at H
   have c30b0 : (a1_0 == 1) = true := beq_iff_eq.mpr c30
   have c30b1 : (a1_0 != 1) = false := bne_eq_false_iff_eq.mpr c30
   clear c30
   (first | rw [c30b0] | (simp only [i64_w, i32_w]; rw [c30b0]) | skip)
   have H' := aM H
   clear H
   go_wp2
   go_meet
   case rel => exact ⟨_, ((a1_0 == 1)), (by first | rfl | (simp; done) | (simp [*]; done)), H', ⟨by first | omega | exact Nat.le_refl _⟩, ⟨kX BK197.out⟩, ⟨kX BK198.out⟩, ⟨kX BK205.out⟩, ⟨sI99⟩, ⟨(sG (w := w))⟩, ⟨(sB99 (B := w0.heap.size) (w0 := w0))⟩⟩
  case rest =>
   clear HC17
   try clear c4
   try clear hcz23_0
   try clear hcz23_1
   try clear hcz23_2
   try clear hcz23_3
   try clear hcz23_4
   try clear hcz23_5
   try clear hcz28_0
   try clear hcz28_1
   try clear hcz28_2
   try clear hcz28_3
   try clear hcz28_4
   try clear hcz28_5
   try clear hcz29_0
   try clear hcz29_1
   try clear hcz29_2
   try clear hcz29_3
   try clear hcz29_4
   try clear hcz29_5
   try clear hfz23_0
   try clear hfz23_1
   try clear hfz23_2
   try clear hfz23_3
   try clear hfz23_4
   try clear hfz23_5
   try clear hfz28_0
   try clear hfz28_1
   try clear hfz28_2
   try clear hfz28_3
   try clear hfz28_4
   try clear hfz28_5
   try clear hfz29_0
   try clear hfz29_1
   try clear hfz29_2
   try clear hfz29_3
   try clear hfz29_4
   try clear hfz29_5
   obtain ⟨kq, x26_16, rfl, HA, HJ16, BK197, BK198, BK205, HI0, HK, HB⟩ := hcut
   cases kq with
   | zero => exact absurd HA.out (by simp [spec_l4Draw.j0])
   | succ kj16 =>
    have H := HA.out
    clear HA
    simp only [spec_l4Draw.j0] at H
    by_cases c31 : x26_16 = true
    ·subst c31
     rw [if_pos rfl] at H
     (try dsimp only at H)
     replace H := Option.bind_eq_some_iff.mp H
     obtain ⟨⟨t206, t209, t210⟩, A320, H⟩ := H
     (try dsimp only at H)
     have A32 := aM A320
     clear A320
     have H' := aM H
     clear H
     have hnb33 := NB197_198.out
     have hnc33 := NB198_197.out
     have hnb34 := NB197_205.out
     have hnc34 := NB205_197.out
     have hnb35 := NB197_0.out
     have hnc35 := NB0_197.out
     obtain ⟨hcz36_0, hfz36_0, hcz36_1, hfz36_1, hcz36_2, hfz36_2, hcz36_3, hfz36_3, hcz36_4, hfz36_4, hcz36_5, hfz36_5⟩ := bk6 BK197.out
     go_wp2_with (first | ((with_reducible refine gate_callee (f := 99) rfl ?_); refine gL (some 32) rfl rfl Try.func99 (by kernel_rfl) rfl #[.pointer (some ⟨g, 0, none⟩), .int .i64 a1_2] rfl ?_; (with_reducible refine (spec_l2Bits.calls kj16 g s0_0 t200 t201 a1_2 t206 t209 t210 w0 _ ?side1 ?side2 A32.out).mono ?_); (case side1 => exact sI99); (case side2 => exact (sB99 (B := w0.heap.size) (w0 := w0))); rintro e w37 ⟨v207, rfl, ho0, hi, hb, hk⟩; refine ⟨_, rfl, ?_⟩; have _ := aM (KeepBut.blk hk (g' := gb197) (o := .cells #[.int .i64 a1_0, .int .i64 a1_1, .int .i64 a1_2, .slice A1_3 l1_3.length c1_3, .slice A1_4 l1_4.length c1_4, .int .i64 a1_5] 48 (0, 0)) (kA BK197.out) NB197_0.out (by simp)); have _ := aM (KeepBut.blk hk (g' := gb198) (o := .cells #[.int .i64 0, .int .i64 0, .int .i64 0, .int .i64 0, .slice none 0 0, .slice none 0 0] 29 (0, 0)) (kA BK198.out) NB198_0.out (by simp)); have _ := aM (KeepBut.blk hk (g' := gb205) (o := .cells #[.int .i64 a1_0, .int .i64 0, .int .i64 0, .int .i64 0, .slice none 0 0, .slice none 0 0] 29 (0, 0)) (kA BK205.out) NB205_0.out (by simp)); have _ := aM (Kd.R_lower ho0 (keep_size (w := w) (g := g) (row := none) (sG (w := w)))); have _ := aM (KeepBut.trans (sG (w := w)) hk (.inl rfl)); have _ := aM (hb); have _ := aM (hi); clear BK197 BK198 BK205 HK HB HI0; rename_i BK197 BK198 BK205 HO208 HK HB HI0; (try clear hb); (try clear hk); (try clear hi); (try clear ho0); obtain ⟨Ao38, co38, eo38⟩ := Kd.R_slice HO208.out; subst eo38; have hnb39 := NB205_198.out; have hnc39 := NB198_205.out; have hnb40 := NB205_0.out; have hnc40 := NB0_205.out; obtain ⟨hcz41_0, hfz41_0, hcz41_1, hfz41_1, hcz41_2, hfz41_2, hcz41_3, hfz41_3, hcz41_4, hfz41_4, hcz41_5, hfz41_5⟩ := bk6 BK205.out))
     go_loopg [] kj16 (fun kq w' => ∃ (x206005_2 : List Bool) (u206005 : Value), Aside0 (spec_l4Draw.l0 kq s0_0 t209 t210 a1_0 0 0 0 x206005_2 = some (r1, r2, r3, r4, r5, r6, r7, r8)) ∧ Aside0 (kq ≤ kj16) ∧ Aside0 (Kd.R Kd.bool 4 w' w.heap.size (fun _ => True) u206005 x206005_2) ∧ Aside0 (w'.heap[gb197]? = some (.cells #[.int .i64 a1_0, .int .i64 a1_1, .int .i64 a1_2, (.slice A1_3 l1_3.length c1_3), (.slice A1_4 l1_4.length c1_4), .int .i64 a1_5] 48 (0, 0))) ∧ Aside0 (w'.heap[gb198]? = some (.cells #[.int .i64 0, .int .i64 0, .int .i64 0, .int .i64 0, (.slice none 0 0), (.slice none 0 0)] 29 (0, 0))) ∧ Aside0 (w'.heap[gb205]? = some (.cells #[.int .i64 a1_0, .int .i64 0, .int .i64 0, .int .i64 0, (.slice none 0 0), u206005] 29 (0, 0))) ∧ Aside0 (IsS99 w0 w' g s0_0 t209 t210) ∧ Aside0 (KeepBut w w' g none) ∧ Aside0 (Below w0.heap.size w0 w'))
     case atStart => exact ⟨(t206), (.slice Ao38 t206.length co38), H', ⟨Nat.le_refl _⟩, ⟨by (with_reducible repeat (first | apply Kd.R_alloc | apply Kd.R_drewN | apply Kd.R_drew)); exact Kd.R_mono (Kd.R_far (p := ⟨gb205, 5, none⟩) (Kd.R_types HO208.out BK205.out (by decide)) (fun _ hk => hk.2) (.slice Ao38 t206.length co38)) (fun _ hk => trivial)⟩, ⟨kX BK197.out⟩, ⟨kX BK198.out⟩, ⟨kX BK205.out⟩, ⟨sI99⟩, ⟨(sG (w := w))⟩, ⟨(sB99 (B := w0.heap.size) (w0 := w0))⟩⟩
     case round =>
      clear H'
      try clear c1
      try clear c2
      try clear p2
      try clear c3
      try clear c4
      try clear p6
      try clear c8
      try clear c9
      try clear c21
      try clear c22
      try clear c25
      try clear c26
      try clear c27
      try clear c30
      try clear c30b0
      try clear c30b1
      try clear c31
      try clear c33
      try clear c34
      try clear c35
      try clear c39
      try clear c40
      try clear hcz23_0
      try clear hcz23_1
      try clear hcz23_2
      try clear hcz23_3
      try clear hcz23_4
      try clear hcz23_5
      try clear hcz28_0
      try clear hcz28_1
      try clear hcz28_2
      try clear hcz28_3
      try clear hcz28_4
      try clear hcz28_5
      try clear hcz29_0
      try clear hcz29_1
      try clear hcz29_2
      try clear hcz29_3
      try clear hcz29_4
      try clear hcz29_5
      try clear hcz36_0
      try clear hcz36_1
      try clear hcz36_2
      try clear hcz36_3
      try clear hcz36_4
      try clear hcz36_5
      try clear hcz41_0
      try clear hcz41_1
      try clear hcz41_2
      try clear hcz41_3
      try clear hcz41_4
      try clear hcz41_5
      try clear hfz23_0
      try clear hfz23_1
      try clear hfz23_2
      try clear hfz23_3
      try clear hfz23_4
      try clear hfz23_5
      try clear hfz28_0
      try clear hfz28_1
      try clear hfz28_2
      try clear hfz28_3
      try clear hfz28_4
      try clear hfz28_5
      try clear hfz29_0
      try clear hfz29_1
      try clear hfz29_2
      try clear hfz29_3
      try clear hfz29_4
      try clear hfz29_5
      try clear hfz36_0
      try clear hfz36_1
      try clear hfz36_2
      try clear hfz36_3
      try clear hfz36_4
      try clear hfz36_5
      try clear hfz41_0
      try clear hfz41_1
      try clear hfz41_2
      try clear hfz41_3
      try clear hfz41_4
      try clear hfz41_5
      try clear p2
      try clear p6
      obtain ⟨x206005_2, u206005, HA, HK2, HO_206005, BK197, BK198, BK205, HI0, HK, HB⟩ := hrel
      cases gk with
      | zero => exact absurd HA.out (by simp [spec_l4Draw.l0])
      | succ k2 =>
       have H := HA.out
       clear HA
       simp only [spec_l4Draw.l0] at H
       by_cases c42 : ((x206005_2.length : Int) % 8) = 0
       rotate_left
       ·rw [if_neg c42] at H
        have c42b0 : (((x206005_2.length : Int) % 8) == 0) = false := beq_eq_false_iff_ne.mpr c42
        have c42b1 : (((x206005_2.length : Int) % 8) != 0) = true := bne_iff_ne.mpr c42
        by_cases c51 : x206005_2.length < 140737488355328
        rotate_left
        ·rw [if_neg c51] at H
         exact absurd H (by simp)
        rw [if_pos c51] at H
        have LMc51 := aM c51
        clear c51
        obtain ⟨y211, hy211⟩ : ∃ y_ : List Bool, y_ = (x206005_2 ++ [false]) := ⟨_, rfl⟩
        replace H : (spec_l4Draw.l0 k2 s0_0 t209 t210 a1_0 0 0 0 y211) = some (r1, r2, r3, r4, r5, r6, r7, r8) := by first | (rw [hy211]; with_reducible exact H) | (have H2_ := (Option.bind_some _ _).symm.trans H; rw [hy211]; with_reducible exact H2_) | (have H2_ := (Option.bind_some _ _).symm.trans H; with_reducible exact H2_) | with_reducible exact H | (rw [hy211]; exact H) | exact H
        have Ny211 := aM hy211
        clear hy211
        have H' := aM H
        clear H
        have hnb52 := NB205_197.out
        have hnc52 := NB197_205.out
        have hnb53 := NB205_198.out
        have hnc53 := NB198_205.out
        have hnb54 := NB205_0.out
        have hnc54 := NB0_205.out
        obtain ⟨hcz55_0, hfz55_0, hcz55_1, hfz55_1, hcz55_2, hfz55_2, hcz55_3, hfz55_3, hcz55_4, hfz55_4, hcz55_5, hfz55_5⟩ := bk6 BK205.out
        obtain ⟨Ao56, co56, eo56⟩ := Kd.R_slice HO_206005.out
        subst eo56
        go_wp2_with (first | ((with_reducible refine gate_builtin (b := .append) (xs := #[.tmp 40, .tmp 41]) rfl ?_); at_builtin; refine Kd.R_append Kd.bool w.heap.size rfl (.tmp 40) (.tmp 41) 23 4 (.bool false) 1 rfl Try.underlying23 info4 rfl (by decide) (by omega) (.slice Ao56 x206005_2.length co56) x206005_2 false [.bool false] (fun _ => True) (fun _ => False) rfl rfl ?aP (fun _ hk => hk.elim) ?aF ?aO (Below.refl _ _) ?aS ?aL ?_; (case aP => exact rfl); (case aF => exact (fun _ _ => trivial)); (case aO => exact (rA HO_206005.out)); (case aS => exact (keep_size (w := w) (g := g) (row := none) (sG (w := w)))); (case aL => have := LMc51.out; omega); intro v212 w57 ho hb hg hat; rw [← Ny211.out] at ho; have _ := aM (blk_grown (g := gb197) (o := .cells #[.int .i64 a1_0, .int .i64 a1_1, .int .i64 a1_2, .slice A1_3 l1_3.length c1_3, .slice A1_4 l1_4.length c1_4, .int .i64 a1_5] 48 (0, 0)) (kA BK197.out) hg (Kd.R_ne HO_206005.out BK197.out (by decide))); have _ := aM (blk_grown (g := gb198) (o := .cells #[.int .i64 0, .int .i64 0, .int .i64 0, .int .i64 0, .slice none 0 0, .slice none 0 0] 29 (0, 0)) (kA BK198.out) hg (Kd.R_ne HO_206005.out BK198.out (by decide))); have _ := aM (blk_grown (g := gb205) (o := .cells #[.int .i64 a1_0, .int .i64 0, .int .i64 0, .int .i64 0, .slice none 0 0, .slice Ao56 x206005_2.length co56] 29 (0, 0)) (kA BK205.out) hg (Kd.R_ne HO_206005.out BK205.out (by decide))); have _ := aM (IsS99.grown sI99 hg (IsS99.own_ne HI0.out HO_206005.out (by decide))); have _ := aM (below_weaken (sB99 (B := w0.heap.size) (w0 := w0)) HL.out hb); have _ := aM (KeepBut.trans (sG (w := w)) (KeepBut.of_grown hg g) (Kd.R_base2 HO_206005.out)); have _ := aM (ho); clear BK197 BK198 BK205 HI0 HB HK HO_206005; rename_i BK197 BK198 BK205 HI0 HB HK HO213; clear ho hb hg hat; obtain ⟨Ao58, co58, eo58⟩ := Kd.R_slice HO213.out; subst eo58; obtain ⟨hcz59_0, hfz59_0, hcz59_1, hfz59_1, hcz59_2, hfz59_2, hcz59_3, hfz59_3, hcz59_4, hfz59_4, hcz59_5, hfz59_5⟩ := bk6 BK205.out))
        go_roundg k2
        case measure => have := HJ16.out; have := HK2.out; omega
        case rel => exact ⟨(y211), (.slice Ao58 y211.length co58), H', ⟨by have := HJ16.out; have := HK2.out; omega⟩, ⟨by (with_reducible repeat (first | apply Kd.R_alloc | apply Kd.R_drewN | apply Kd.R_drew)); exact Kd.R_mono (Kd.R_far (p := ⟨gb205, 5, none⟩) (Kd.R_types HO213.out BK205.out (by decide)) (fun _ hk => hk.2) (.slice Ao58 y211.length co58)) (fun _ hk => trivial)⟩, ⟨kX BK197.out⟩, ⟨kX BK198.out⟩, ⟨kX BK205.out⟩, ⟨sI99⟩, ⟨(sG (w := w))⟩, ⟨(sB99 (B := w0.heap.size) (w0 := w0))⟩⟩
       rw [if_pos c42] at H
       have c42b0 : (((x206005_2.length : Int) % 8) == 0) = true := beq_iff_eq.mpr c42
       have c42b1 : (((x206005_2.length : Int) % 8) != 0) = false := bne_eq_false_iff_eq.mpr c42
       clear c42
       simp only [Option.some.injEq, Prod.mk.injEq] at H
       obtain ⟨rfl, rfl, rfl, rfl, rfl, rfl, rfl, rfl⟩ := H
       have hnb43 := NB205_197.out
       have hnc43 := NB197_205.out
       have hnb44 := NB205_198.out
       have hnc44 := NB198_205.out
       have hnb45 := NB205_0.out
       have hnc45 := NB0_205.out
       obtain ⟨hcz46_0, hfz46_0, hcz46_1, hfz46_1, hcz46_2, hfz46_2, hcz46_3, hfz46_3, hcz46_4, hfz46_4, hcz46_5, hfz46_5⟩ := bk6 BK205.out
       obtain ⟨Ao47, co47, eo47⟩ := Kd.R_slice HO_206005.out
       subst eo47
       have hnb48 := NB198_197.out
       have hnc48 := NB197_198.out
       have hnb49 := NB198_0.out
       have hnc49 := NB0_198.out
       obtain ⟨hcz50_0, hfz50_0, hcz50_1, hfz50_1, hcz50_2, hfz50_2, hcz50_3, hfz50_3, hcz50_4, hfz50_4, hcz50_5, hfz50_5⟩ := bk6 BK198.out
       go_wp2
       refine bodyPost_ret (results_cell_row rfl _ _ gb198 29 #[.int .i64 a1_0, .int .i64 0, .int .i64 0, .int .i64 0, .slice none 0 0, .slice Ao47 x206005_2.length co47] (0, 0) _ rfl (kP6 BK198.out) Try.underlying29 rfl (by kernel_rfl)) rfl ?_
       exact ⟨_, _, by first | rfl | (simp [errW_none, errW_some] <;> rfl) | (simp [*, errW_none, errW_some] <;> rfl), by first | exact Kd.R_nil _ _ _ _ _ | exact Kd.N_nil _ _ _ _ _ | exact Kd.V_nil _ _ _ _ _ | exact Kd.Q_nil _ _ _ _ _ | exact Kd.S_nil _ _ _ _ _, by (with_reducible repeat (first | apply Kd.R_alloc | apply Kd.R_drewN | apply Kd.R_drew)); exact Kd.R_mono (Kd.R_far (p := ⟨gb198, 5, none⟩) (Kd.R_far (p := ⟨gb198, 4, none⟩) (Kd.R_far (p := ⟨gb198, 3, none⟩) (Kd.R_far (p := ⟨gb198, 2, none⟩) (Kd.R_far (p := ⟨gb198, 1, none⟩) (Kd.R_far (p := ⟨gb198, 0, none⟩) (Kd.R_types HO_206005.out BK198.out (by decide)) (fun _ hk => hk.2) (.int .i64 a1_0)) (fun _ hk => hk.2) (.int .i64 0)) (fun _ hk => hk.2) (.int .i64 0)) (fun _ hk => hk.2) (.int .i64 0)) (fun _ hk => hk.2) (.slice none 0 0)) (fun _ hk => hk.2) (.slice Ao47 x206005_2.length co47)) (fun _ hk => trivial), sI99, (sB99 (B := w0.heap.size) (w0 := w0)), (sG (w := w))⟩
    ·replace c31 := Bool.eq_false_iff.mpr c31
     subst c31
     rw [if_neg (show ¬ (false = true) by decide)] at H
     (try dsimp only at H)
     have HC60 := aM H
     clear H
     go_upto_if 44 with (fail)
     go_cut [44] (fun v44 wc => ∃ (kq : Nat) (x44_59 : Bool), v44 = .bool x44_59 ∧ Aside0 (spec_l4Draw.j2 kq a1_0 x44_59 s0_0 t200 t201 a1_0 a1_1 a1_2 l1_3 l1_4 a1_5 a1_0 0 0 0 = some (r1, r2, r3, r4, r5, r6, r7, r8)) ∧ Aside0 (kq ≤ kj16) ∧ Aside0 (wc.heap[gb197]? = some (.cells #[.int .i64 a1_0, .int .i64 a1_1, .int .i64 a1_2, (.slice A1_3 l1_3.length c1_3), (.slice A1_4 l1_4.length c1_4), .int .i64 a1_5] 48 (0, 0))) ∧ Aside0 (wc.heap[gb198]? = some (.cells #[.int .i64 0, .int .i64 0, .int .i64 0, .int .i64 0, (.slice none 0 0), (.slice none 0 0)] 29 (0, 0))) ∧ Aside0 (wc.heap[gb205]? = some (.cells #[.int .i64 a1_0, .int .i64 0, .int .i64 0, .int .i64 0, (.slice none 0 0), (.slice none 0 0)] 29 (0, 0))) ∧ Aside0 (IsS99 w0 wc g s0_0 t200 t201) ∧ Aside0 (KeepBut w wc g none) ∧ Aside0 (Below w0.heap.size w0 wc))
     case first =>
      have H := HC60.out
      clear HC60
      by_cases c61 : a1_0 = 3
      ·rw [if_pos c61] at H
       have c61b0 : (a1_0 == 3) = true := beq_iff_eq.mpr c61
       have c61b1 : (a1_0 != 3) = false := bne_eq_false_iff_eq.mpr c61
       clear c61
       (first | rw [c61b0] | (simp only [i64_w, i32_w]; rw [c61b0]) | skip)
       have H' := aM H
       clear H
       go_wp2
       go_meet
       case rel => exact ⟨_, ((a1_0 == 3)), (by first | rfl | (simp; done) | (simp [*]; done)), H', ⟨by have := HJ16.out; first | omega | exact Nat.le_refl _⟩, ⟨kX BK197.out⟩, ⟨kX BK198.out⟩, ⟨kX BK205.out⟩, ⟨sI99⟩, ⟨(sG (w := w))⟩, ⟨(sB99 (B := w0.heap.size) (w0 := w0))⟩⟩
      ·rw [if_neg c61] at H
       have c61b0 : (a1_0 == 3) = false := beq_eq_false_iff_ne.mpr c61
       have c61b1 : (a1_0 != 3) = true := bne_iff_ne.mpr c61
       (first | rw [c61b0] | (simp only [i64_w, i32_w]; rw [c61b0]) | skip)
       by_cases c62 : a1_0 = 4
       rotate_left
       ·rw [if_neg c62] at H
        have c62b0 : (a1_0 == 4) = false := beq_eq_false_iff_ne.mpr c62
        have c62b1 : (a1_0 != 4) = true := bne_iff_ne.mpr c62
        have H' := aM H
        clear H
        go_wp2
        go_meet
        case rel => exact ⟨_, ((a1_0 == 23)), (by first | rfl | (simp; done) | (simp [*]; done)), H', ⟨by have := HJ16.out; first | omega | exact Nat.le_refl _⟩, ⟨kX BK197.out⟩, ⟨kX BK198.out⟩, ⟨kX BK205.out⟩, ⟨sI99⟩, ⟨(sG (w := w))⟩, ⟨(sB99 (B := w0.heap.size) (w0 := w0))⟩⟩
       rw [if_pos c62] at H
       have c62b0 : (a1_0 == 4) = true := beq_iff_eq.mpr c62
       have c62b1 : (a1_0 != 4) = false := bne_eq_false_iff_eq.mpr c62
       clear c62
       have H' := aM H
       clear H
       go_wp2
       go_meet
       case rel => exact ⟨_, ((a1_0 == 4)), (by first | rfl | (simp; done) | (simp [*]; done)), H', ⟨by have := HJ16.out; first | omega | exact Nat.le_refl _⟩, ⟨kX BK197.out⟩, ⟨kX BK198.out⟩, ⟨kX BK205.out⟩, ⟨sI99⟩, ⟨(sG (w := w))⟩, ⟨(sB99 (B := w0.heap.size) (w0 := w0))⟩⟩
     case rest =>
      clear HC60
      try clear c1
      try clear c2
      try clear p2
      try clear c3
      try clear c4
      try clear p6
      try clear c8
      try clear c9
      try clear c21
      try clear c22
      try clear c25
      try clear c26
      try clear c27
      try clear c30
      try clear c30b0
      try clear c30b1
      try clear c31
      try clear c33
      try clear c34
      try clear c35
      try clear c39
      try clear c40
      try clear c42
      try clear c42b0
      try clear c42b1
      try clear c51
      try clear hcz23_0
      try clear hcz23_1
      try clear hcz23_2
      try clear hcz23_3
      try clear hcz23_4
      try clear hcz23_5
      try clear hcz28_0
      try clear hcz28_1
      try clear hcz28_2
      try clear hcz28_3
      try clear hcz28_4
      try clear hcz28_5
      try clear hcz29_0
      try clear hcz29_1
      try clear hcz29_2
      try clear hcz29_3
      try clear hcz29_4
      try clear hcz29_5
      try clear hcz36_0
      try clear hcz36_1
      try clear hcz36_2
      try clear hcz36_3
      try clear hcz36_4
      try clear hcz36_5
      try clear hcz41_0
      try clear hcz41_1
      try clear hcz41_2
      try clear hcz41_3
      try clear hcz41_4
      try clear hcz41_5
      try clear hcz46_0
      try clear hcz46_1
      try clear hcz46_2
      try clear hcz46_3
      try clear hcz46_4
      try clear hcz46_5
      try clear hcz50_0
      try clear hcz50_1
      try clear hcz50_2
      try clear hcz50_3
      try clear hcz50_4
      try clear hcz50_5
      try clear hcz55_0
      try clear hcz55_1
      try clear hcz55_2
      try clear hcz55_3
      try clear hcz55_4
      try clear hcz55_5
      try clear hcz59_0
      try clear hcz59_1
      try clear hcz59_2
      try clear hcz59_3
      try clear hcz59_4
      try clear hcz59_5
      try clear hfz23_0
      try clear hfz23_1
      try clear hfz23_2
      try clear hfz23_3
      try clear hfz23_4
      try clear hfz23_5
      try clear hfz28_0
      try clear hfz28_1
      try clear hfz28_2
      try clear hfz28_3
      try clear hfz28_4
      try clear hfz28_5
      try clear hfz29_0
      try clear hfz29_1
      try clear hfz29_2
      try clear hfz29_3
      try clear hfz29_4
      try clear hfz29_5
      try clear hfz36_0
      try clear hfz36_1
      try clear hfz36_2
      try clear hfz36_3
      try clear hfz36_4
      try clear hfz36_5
      try clear hfz41_0
      try clear hfz41_1
      try clear hfz41_2
      try clear hfz41_3
      try clear hfz41_4
      try clear hfz41_5
      try clear hfz46_0
      try clear hfz46_1
      try clear hfz46_2
      try clear hfz46_3
      try clear hfz46_4
      try clear hfz46_5
      try clear hfz50_0
      try clear hfz50_1
      try clear hfz50_2
      try clear hfz50_3
      try clear hfz50_4
      try clear hfz50_5
      try clear hfz55_0
      try clear hfz55_1
      try clear hfz55_2
      try clear hfz55_3
      try clear hfz55_4
      try clear hfz55_5
      try clear hfz59_0
      try clear hfz59_1
      try clear hfz59_2
      try clear hfz59_3
      try clear hfz59_4
      try clear hfz59_5
      try clear p2
      try clear p6
      obtain ⟨kq, x44_59, rfl, HA, HJ59, BK197, BK198, BK205, HI0, HK, HB⟩ := hcut
      cases kq with
      | zero => exact absurd HA.out (by simp [spec_l4Draw.j2])
      | succ kj59 =>
       have H := HA.out
       clear HA
       simp only [spec_l4Draw.j2] at H
       by_cases c63 : x44_59 = true
       ·subst c63
        rw [if_pos rfl] at H
        (try dsimp only at H)
        replace H := Option.bind_eq_some_iff.mp H
        obtain ⟨⟨t214, t217, t218⟩, A640, H⟩ := H
        (try dsimp only at H)
        have A64 := aM A640
        clear A640
        simp only [Option.some.injEq, Prod.mk.injEq] at H
        obtain ⟨rfl, rfl, rfl, rfl, rfl, rfl, rfl, rfl⟩ := H
        have hnb65 := NB197_198.out
        have hnc65 := NB198_197.out
        have hnb66 := NB197_205.out
        have hnc66 := NB205_197.out
        have hnb67 := NB197_0.out
        have hnc67 := NB0_197.out
        obtain ⟨hcz68_0, hfz68_0, hcz68_1, hfz68_1, hcz68_2, hfz68_2, hcz68_3, hfz68_3, hcz68_4, hfz68_4, hcz68_5, hfz68_5⟩ := bk6 BK197.out
        go_wp2_with (first | ((with_reducible refine gate_callee (f := 100) rfl ?_); refine gL (some 51) rfl rfl Try.func100 (by kernel_rfl) rfl #[.pointer (some ⟨g, 0, none⟩), .int .i64 a1_2] rfl ?_; (with_reducible refine (spec_l3List.calls kj59 g s0_0 t200 t201 a1_2 t214 t217 t218 w0 _ ?side1 ?side2 A64.out).mono ?_); (case side1 => exact sI99); (case side2 => exact (sB99 (B := w0.heap.size) (w0 := w0))); rintro e w69 ⟨v215, rfl, ho0, hi, hb, hk⟩; refine ⟨_, rfl, ?_⟩; have _ := aM (KeepBut.blk hk (g' := gb197) (o := .cells #[.int .i64 a1_0, .int .i64 a1_1, .int .i64 a1_2, .slice A1_3 l1_3.length c1_3, .slice A1_4 l1_4.length c1_4, .int .i64 a1_5] 48 (0, 0)) (kA BK197.out) NB197_0.out (by simp)); have _ := aM (KeepBut.blk hk (g' := gb198) (o := .cells #[.int .i64 0, .int .i64 0, .int .i64 0, .int .i64 0, .slice none 0 0, .slice none 0 0] 29 (0, 0)) (kA BK198.out) NB198_0.out (by simp)); have _ := aM (KeepBut.blk hk (g' := gb205) (o := .cells #[.int .i64 a1_0, .int .i64 0, .int .i64 0, .int .i64 0, .slice none 0 0, .slice none 0 0] 29 (0, 0)) (kA BK205.out) NB205_0.out (by simp)); have _ := aM (Kd.R_lower ho0 (keep_size (w := w) (g := g) (row := none) (sG (w := w)))); have _ := aM (KeepBut.trans (sG (w := w)) hk (.inl rfl)); have _ := aM (hb); have _ := aM (hi); clear BK197 BK198 BK205 HK HB HI0; rename_i BK197 BK198 BK205 HO216 HK HB HI0; (try clear hb); (try clear hk); (try clear hi); (try clear ho0); obtain ⟨Ao70, co70, eo70⟩ := Kd.R_slice HO216.out; subst eo70; have hnb71 := NB205_198.out; have hnc71 := NB198_205.out; have hnb72 := NB205_0.out; have hnc72 := NB0_205.out; obtain ⟨hcz73_0, hfz73_0, hcz73_1, hfz73_1, hcz73_2, hfz73_2, hcz73_3, hfz73_3, hcz73_4, hfz73_4, hcz73_5, hfz73_5⟩ := bk6 BK205.out; have hnb74 := NB198_0.out; have hnc74 := NB0_198.out; obtain ⟨hcz75_0, hfz75_0, hcz75_1, hfz75_1, hcz75_2, hfz75_2, hcz75_3, hfz75_3, hcz75_4, hfz75_4, hcz75_5, hfz75_5⟩ := bk6 BK198.out))
        refine bodyPost_ret (results_cell_row rfl _ _ gb198 29 #[.int .i64 a1_0, .int .i64 0, .int .i64 0, .int .i64 0, .slice Ao70 t214.length co70, .slice none 0 0] (0, 0) _ rfl (kX BK198.out) Try.underlying29 rfl (by kernel_rfl)) rfl ?_
        exact ⟨_, _, by first | rfl | (simp [errW_none, errW_some] <;> rfl) | (simp [*, errW_none, errW_some] <;> rfl), by (with_reducible repeat (first | apply Kd.R_alloc | apply Kd.R_drewN | apply Kd.R_drew)); exact Kd.R_mono (Kd.R_far (p := ⟨gb198, 5, none⟩) (Kd.R_far (p := ⟨gb198, 4, none⟩) (Kd.R_far (p := ⟨gb198, 3, none⟩) (Kd.R_far (p := ⟨gb198, 2, none⟩) (Kd.R_far (p := ⟨gb198, 1, none⟩) (Kd.R_far (p := ⟨gb198, 0, none⟩) (Kd.R_far (p := ⟨gb205, 4, none⟩) (Kd.R_types (Kd.R_types HO216.out BK205.out (by decide)) BK198.out (by decide)) (fun _ hk => hk.1.2) (.slice Ao70 t214.length co70)) (fun _ hk => hk.2) (.int .i64 a1_0)) (fun _ hk => hk.2) (.int .i64 0)) (fun _ hk => hk.2) (.int .i64 0)) (fun _ hk => hk.2) (.int .i64 0)) (fun _ hk => hk.2) (.slice Ao70 t214.length co70)) (fun _ hk => hk.2) (.slice none 0 0)) (fun _ hk => trivial), by first | exact Kd.R_nil _ _ _ _ _ | exact Kd.N_nil _ _ _ _ _ | exact Kd.V_nil _ _ _ _ _ | exact Kd.Q_nil _ _ _ _ _ | exact Kd.S_nil _ _ _ _ _, sI99, (sB99 (B := w0.heap.size) (w0 := w0)), (sG (w := w))⟩
       ·replace c63 := Bool.eq_false_iff.mpr c63
        subst c63
        rw [if_neg (show ¬ (false = true) by decide)] at H
        (try dsimp only at H)
        by_cases c76 : a1_0 = 5
        ·rw [if_pos c76] at H
         have c76b0 : (a1_0 == 5) = true := beq_iff_eq.mpr c76
         have c76b1 : (a1_0 != 5) = false := bne_eq_false_iff_eq.mpr c76
         clear c76
         obtain ⟨y219, hy219⟩ : ∃ y_ : List Bool, y_ = (([] : List Bool)) := ⟨_, rfl⟩
         replace H : (if y219.length + l1_4.length < 140737488355328 then (some (a1_0, 0, a1_1, 0, ([] : List Int), (y219 ++ l1_4), t200, t201)) else (none)) = some (r1, r2, r3, r4, r5, r6, r7, r8) := by first | (rw [hy219]; with_reducible exact H) | (have H2_ := (Option.bind_some _ _).symm.trans H; rw [hy219]; with_reducible exact H2_) | (have H2_ := (Option.bind_some _ _).symm.trans H; with_reducible exact H2_) | with_reducible exact H | (rw [hy219]; exact H) | exact H
         have Ny219 := aM hy219
         clear hy219
         by_cases c77 : y219.length + l1_4.length < 140737488355328
         rotate_left
         ·rw [if_neg c77] at H
          exact absurd H (by simp)
         rw [if_pos c77] at H
         have LMc77 := aM c77
         clear c77
         obtain ⟨y222, hy222⟩ : ∃ y_ : List Bool, y_ = (y219 ++ l1_4) := ⟨_, rfl⟩
         replace H : (some (a1_0, 0, a1_1, 0, ([] : List Int), y222, t200, t201)) = some (r1, r2, r3, r4, r5, r6, r7, r8) := by first | (rw [hy222]; with_reducible exact H) | (have H2_ := (Option.bind_some _ _).symm.trans H; rw [hy222]; with_reducible exact H2_) | (have H2_ := (Option.bind_some _ _).symm.trans H; with_reducible exact H2_) | with_reducible exact H | (rw [hy222]; exact H) | exact H
         have Ny222 := aM hy222
         clear hy222
         simp only [Option.some.injEq, Prod.mk.injEq] at H
         obtain ⟨rfl, rfl, rfl, rfl, rfl, rfl, rfl, rfl⟩ := H
         have hnb78 := NB197_198.out
         have hnc78 := NB198_197.out
         have hnb79 := NB197_205.out
         have hnc79 := NB205_197.out
         have hnb80 := NB197_0.out
         have hnc80 := NB0_197.out
         obtain ⟨hcz81_0, hfz81_0, hcz81_1, hfz81_1, hcz81_2, hfz81_2, hcz81_3, hfz81_3, hcz81_4, hfz81_4, hcz81_5, hfz81_5⟩ := bk6 BK197.out
         have hnb82 := NB205_198.out
         have hnc82 := NB198_205.out
         have hnb83 := NB205_0.out
         have hnc83 := NB0_205.out
         obtain ⟨hcz84_0, hfz84_0, hcz84_1, hfz84_1, hcz84_2, hfz84_2, hcz84_3, hfz84_3, hcz84_4, hfz84_4, hcz84_5, hfz84_5⟩ := bk6 BK205.out
         go_wp2_with (first | ((with_reducible refine gate_dst (N := 58) rfl ?_); refine Kd.R_lit Kd.bool _ 4 ?hg (N := 58) ?hd (xs := ([] : List Bool)) (inner := []) (ok := fun _ => True) (okp := fun _ => True) ?hr ?hp (fun _ hk => hk) trivial (Below.refl _ _) (Nat.le_refl _) (by simp) ?_; (case hd => rfl); (case hg => rfl); (case hr => first | (go_simp; done) | (go_simp; rfl)); (case hp => exact (Reps.none _ _)); intro v220 w85 ho86 hb hg_ hnew_; clear hg_ hnew_; (first | rw [← Ny219.out] at ho86 | (simp only [Int.reduceToNat] at ho86; rw [← Ny219.out] at ho86)); have _ := aM (Kd.R_lower ho86 (keep_size (w := w) (g := g) (row := none) (sG (w := w)))); have _ := aM (blk_below (kF1 BK197.out NB197_205.out) hb); have _ := aM (blk_below (kF1 BK198.out NB198_205.out) hb); have _ := aM (blk_below (g := gb205) (o := .cells #[.int .i64 a1_0, .int .i64 0, .int .i64 a1_1, .int .i64 0, .slice none 0 0, .slice none 0 0] 29 (0, 0)) (kX BK205.out) hb); have _ := aM (IsS99.below (show IsS99 w0 (wc.setCell ⟨gb205, 2, none⟩ (.int .i64 a1_1)) g s0_0 t200 t201 from sI99) hb); have _ := aM (KeepBut.trans (sG (w := w)) (KeepBut.of_below hb g none) (.inl rfl)); have _ := aM (below_step (sB99 (B := w0.heap.size) (w0 := w0)) hb); clear BK197 BK198 BK205 HI0 HK HB; rename_i HO221 BK197 BK198 BK205 HI0 HK HB; clear hb ho86; obtain ⟨hcz87_0, hfz87_0, hcz87_1, hfz87_1, hcz87_2, hfz87_2, hcz87_3, hfz87_3, hcz87_4, hfz87_4, hcz87_5, hfz87_5⟩ := bk6 BK197.out) | ((with_reducible refine gate_builtin (b := .append) (xs := #[.tmp 58, .tmp 60]) rfl ?_); at_builtin; refine Kd.R_append_rows Kd.bool w.heap.size rfl (.tmp 58) (.tmp 60) 23 4 (.bool false) 1 rfl Try.underlying23 info4 rfl (by decide) (by omega) v220 y219 l1_4 _ _ _ (fun _ => True) (fun _ => False) rfl rfl ?aO ?aR (fun _ _ h => h) (fun _ h => h.elim) ?aF (Below.refl _ _) ?aS ?aL ?_; (case aR => exact Kd.C_keep false HR1_4.out (sG (w := w)) hf1_4); (case aF => exact (fun _ _ => trivial)); (case aO => exact (rA HO221.out)); (case aS => exact (keep_size (w := w) (g := g) (row := none) (sG (w := w)))); (case aL => have := LMc77.out; omega); intro v223 w88 ho hb hg hat; rw [← Ny222.out] at ho; have _ := aM (blk_grown (g := gb197) (o := .cells #[.int .i64 a1_0, .int .i64 a1_1, .int .i64 a1_2, .slice A1_3 l1_3.length c1_3, .slice A1_4 l1_4.length c1_4, .int .i64 a1_5] 48 (0, 0)) (kA BK197.out) hg (Kd.R_ne HO221.out BK197.out (by decide))); have _ := aM (blk_grown (g := gb198) (o := .cells #[.int .i64 0, .int .i64 0, .int .i64 0, .int .i64 0, .slice none 0 0, .slice none 0 0] 29 (0, 0)) (kA BK198.out) hg (Kd.R_ne HO221.out BK198.out (by decide))); have _ := aM (blk_grown (g := gb205) (o := .cells #[.int .i64 a1_0, .int .i64 0, .int .i64 a1_1, .int .i64 0, .slice none 0 0, .slice none 0 0] 29 (0, 0)) (kA BK205.out) hg (Kd.R_ne HO221.out BK205.out (by decide))); have _ := aM (IsS99.grown sI99 hg (IsS99.own_ne HI0.out HO221.out (by decide))); have _ := aM (below_weaken (sB99 (B := w0.heap.size) (w0 := w0)) HL.out hb); have _ := aM (KeepBut.trans (sG (w := w)) (KeepBut.of_grown hg g) (Kd.R_base2 HO221.out)); have _ := aM (ho); clear BK197 BK198 BK205 HI0 HB HK HO221; rename_i BK197 BK198 BK205 HI0 HB HK HO224; clear ho hb hg hat; obtain ⟨Ao89, co89, eo89⟩ := Kd.R_slice HO224.out; subst eo89; obtain ⟨hcz90_0, hfz90_0, hcz90_1, hfz90_1, hcz90_2, hfz90_2, hcz90_3, hfz90_3, hcz90_4, hfz90_4, hcz90_5, hfz90_5⟩ := bk6 BK205.out; have hnb91 := NB198_0.out; have hnc91 := NB0_198.out; obtain ⟨hcz92_0, hfz92_0, hcz92_1, hfz92_1, hcz92_2, hfz92_2, hcz92_3, hfz92_3, hcz92_4, hfz92_4, hcz92_5, hfz92_5⟩ := bk6 BK198.out))
         refine bodyPost_ret (results_cell_row rfl _ _ gb198 29 #[.int .i64 a1_0, .int .i64 0, .int .i64 a1_1, .int .i64 0, .slice none 0 0, .slice Ao89 y222.length co89] (0, 0) _ rfl (kX BK198.out) Try.underlying29 rfl (by kernel_rfl)) rfl ?_
         exact ⟨_, _, by first | rfl | (simp [errW_none, errW_some] <;> rfl) | (simp [*, errW_none, errW_some] <;> rfl), by first | exact Kd.R_nil _ _ _ _ _ | exact Kd.N_nil _ _ _ _ _ | exact Kd.V_nil _ _ _ _ _ | exact Kd.Q_nil _ _ _ _ _ | exact Kd.S_nil _ _ _ _ _, by (with_reducible repeat (first | apply Kd.R_alloc | apply Kd.R_drewN | apply Kd.R_drew)); exact Kd.R_mono (Kd.R_far (p := ⟨gb198, 5, none⟩) (Kd.R_far (p := ⟨gb198, 4, none⟩) (Kd.R_far (p := ⟨gb198, 3, none⟩) (Kd.R_far (p := ⟨gb198, 2, none⟩) (Kd.R_far (p := ⟨gb198, 1, none⟩) (Kd.R_far (p := ⟨gb198, 0, none⟩) (Kd.R_far (p := ⟨gb205, 5, none⟩) (Kd.R_types (Kd.R_types HO224.out BK205.out (by decide)) BK198.out (by decide)) (fun _ hk => hk.1.2) (.slice Ao89 y222.length co89)) (fun _ hk => hk.2) (.int .i64 a1_0)) (fun _ hk => hk.2) (.int .i64 0)) (fun _ hk => hk.2) (.int .i64 a1_1)) (fun _ hk => hk.2) (.int .i64 0)) (fun _ hk => hk.2) (.slice none 0 0)) (fun _ hk => hk.2) (.slice Ao89 y222.length co89)) (fun _ hk => trivial), sI99, (sB99 (B := w0.heap.size) (w0 := w0)), (sG (w := w))⟩
        ·rw [if_neg c76] at H
         have c76b0 : (a1_0 == 5) = false := beq_eq_false_iff_ne.mpr c76
         have c76b1 : (a1_0 != 5) = true := bne_iff_ne.mpr c76
         have HC93 := aM H
         clear H
         go_upto_if 63 with (fail)
         go_cut [63] (fun v63 wc => ∃ (kq : Nat) (x63_92 : Bool), v63 = .bool x63_92 ∧ Aside0 (spec_l4Draw.j3 kq a1_0 x63_92 s0_0 t200 t201 a1_0 a1_1 a1_2 l1_3 l1_4 a1_5 a1_0 0 0 0 = some (r1, r2, r3, r4, r5, r6, r7, r8)) ∧ Aside0 (kq ≤ kj59) ∧ Aside0 (wc.heap[gb197]? = some (.cells #[.int .i64 a1_0, .int .i64 a1_1, .int .i64 a1_2, (.slice A1_3 l1_3.length c1_3), (.slice A1_4 l1_4.length c1_4), .int .i64 a1_5] 48 (0, 0))) ∧ Aside0 (wc.heap[gb198]? = some (.cells #[.int .i64 0, .int .i64 0, .int .i64 0, .int .i64 0, (.slice none 0 0), (.slice none 0 0)] 29 (0, 0))) ∧ Aside0 (wc.heap[gb205]? = some (.cells #[.int .i64 a1_0, .int .i64 0, .int .i64 0, .int .i64 0, (.slice none 0 0), (.slice none 0 0)] 29 (0, 0))) ∧ Aside0 (IsS99 w0 wc g s0_0 t200 t201) ∧ Aside0 (KeepBut w wc g none) ∧ Aside0 (Below w0.heap.size w0 wc))
         case first =>
          have H := HC93.out
          clear HC93
          by_cases c94 : a1_0 = 6
          rotate_left
          ·rw [if_neg c94] at H
           have c94b0 : (a1_0 == 6) = false := beq_eq_false_iff_ne.mpr c94
           have c94b1 : (a1_0 != 6) = true := bne_iff_ne.mpr c94
           (first | rw [c94b0] | (simp only [i64_w, i32_w]; rw [c94b0]) | skip)
           have H' := aM H
           clear H
           go_wp2
           go_meet
           case rel => exact ⟨_, ((a1_0 == 22)), (by first | rfl | (simp; done) | (simp [*]; done)), H', ⟨by have := HJ16.out; have := HJ59.out; first | omega | exact Nat.le_refl _⟩, ⟨kX BK197.out⟩, ⟨kX BK198.out⟩, ⟨kX BK205.out⟩, ⟨sI99⟩, ⟨(sG (w := w))⟩, ⟨(sB99 (B := w0.heap.size) (w0 := w0))⟩⟩
          rw [if_pos c94] at H
          have c94b0 : (a1_0 == 6) = true := beq_iff_eq.mpr c94
          have c94b1 : (a1_0 != 6) = false := bne_eq_false_iff_eq.mpr c94
          clear c94
          (first | rw [c94b0] | (simp only [i64_w, i32_w]; rw [c94b0]) | skip)
          have H' := aM H
          clear H
          go_wp2
          go_meet
          case rel => exact ⟨_, ((a1_0 == 6)), (by first | rfl | (simp; done) | (simp [*]; done)), H', ⟨by have := HJ16.out; have := HJ59.out; first | omega | exact Nat.le_refl _⟩, ⟨kX BK197.out⟩, ⟨kX BK198.out⟩, ⟨kX BK205.out⟩, ⟨sI99⟩, ⟨(sG (w := w))⟩, ⟨(sB99 (B := w0.heap.size) (w0 := w0))⟩⟩
         case rest =>
          clear HC93
          try clear c1
          try clear c2
          try clear p2
          try clear c3
          try clear c4
          try clear c5
          try clear c6
          try clear p6
          try clear c8
          try clear c9
          try clear c21
          try clear c22
          try clear c25
          try clear c26
          try clear c27
          try clear c30
          try clear c30b0
          try clear c30b1
          try clear c31
          try clear c33
          try clear c34
          try clear c35
          try clear c39
          try clear c40
          try clear c42
          try clear c42b0
          try clear c42b1
          try clear c43
          try clear c44
          try clear c45
          try clear c48
          try clear c49
          try clear c51
          try clear c52
          try clear c53
          try clear c54
          try clear c61
          try clear c61b0
          try clear c61b1
          try clear c62
          try clear c62b0
          try clear c62b1
          try clear c63
          try clear c76
          try clear c76b0
          try clear c76b1
          try clear c77
          try clear hcz23_0
          try clear hcz23_1
          try clear hcz23_2
          try clear hcz23_3
          try clear hcz23_4
          try clear hcz23_5
          try clear hcz28_0
          try clear hcz28_1
          try clear hcz28_2
          try clear hcz28_3
          try clear hcz28_4
          try clear hcz28_5
          try clear hcz29_0
          try clear hcz29_1
          try clear hcz29_2
          try clear hcz29_3
          try clear hcz29_4
          try clear hcz29_5
          try clear hcz36_0
          try clear hcz36_1
          try clear hcz36_2
          try clear hcz36_3
          try clear hcz36_4
          try clear hcz36_5
          try clear hcz41_0
          try clear hcz41_1
          try clear hcz41_2
          try clear hcz41_3
          try clear hcz41_4
          try clear hcz41_5
          try clear hcz46_0
          try clear hcz46_1
          try clear hcz46_2
          try clear hcz46_3
          try clear hcz46_4
          try clear hcz46_5
          try clear hcz50_0
          try clear hcz50_1
          try clear hcz50_2
          try clear hcz50_3
          try clear hcz50_4
          try clear hcz50_5
          try clear hcz55_0
          try clear hcz55_1
          try clear hcz55_2
          try clear hcz55_3
          try clear hcz55_4
          try clear hcz55_5
          try clear hcz59_0
          try clear hcz59_1
          try clear hcz59_2
          try clear hcz59_3
          try clear hcz59_4
          try clear hcz59_5
          try clear hcz68_0
          try clear hcz68_1
          try clear hcz68_2
          try clear hcz68_3
          try clear hcz68_4
          try clear hcz68_5
          try clear hcz73_0
          try clear hcz73_1
          try clear hcz73_2
          try clear hcz73_3
          try clear hcz73_4
          try clear hcz73_5
          try clear hcz75_0
          try clear hcz75_1
          try clear hcz75_2
          try clear hcz75_3
          try clear hcz75_4
          try clear hcz75_5
          try clear hcz81_0
          try clear hcz81_1
          try clear hcz81_2
          try clear hcz81_3
          try clear hcz81_4
          try clear hcz81_5
          try clear hcz84_0
          try clear hcz84_1
          try clear hcz84_2
          try clear hcz84_3
          try clear hcz84_4
          try clear hcz84_5
          try clear hcz87_0
          try clear hcz87_1
          try clear hcz87_2
          try clear hcz87_3
          try clear hcz87_4
          try clear hcz87_5
          try clear hcz90_0
          try clear hcz90_1
          try clear hcz90_2
          try clear hcz90_3
          try clear hcz90_4
          try clear hcz90_5
          try clear hcz92_0
          try clear hcz92_1
          try clear hcz92_2
          try clear hcz92_3
          try clear hcz92_4
          try clear hcz92_5
          try clear hfz23_0
          try clear hfz23_1
          try clear hfz23_2
          try clear hfz23_3
          try clear hfz23_4
          try clear hfz23_5
          try clear hfz28_0
          try clear hfz28_1
          try clear hfz28_2
          try clear hfz28_3
          try clear hfz28_4
          try clear hfz28_5
          try clear hfz29_0
          try clear hfz29_1
          try clear hfz29_2
          try clear hfz29_3
          try clear hfz29_4
          try clear hfz29_5
          try clear hfz36_0
          try clear hfz36_1
          try clear hfz36_2
          try clear hfz36_3
          try clear hfz36_4
          try clear hfz36_5
          try clear hfz41_0
          try clear hfz41_1
          try clear hfz41_2
          try clear hfz41_3
          try clear hfz41_4
          try clear hfz41_5
          try clear hfz46_0
          try clear hfz46_1
          try clear hfz46_2
          try clear hfz46_3
          try clear hfz46_4
          try clear hfz46_5
          try clear hfz50_0
          try clear hfz50_1
          try clear hfz50_2
          try clear hfz50_3
          try clear hfz50_4
          try clear hfz50_5
          try clear hfz55_0
          try clear hfz55_1
          try clear hfz55_2
          try clear hfz55_3
          try clear hfz55_4
          try clear hfz55_5
          try clear hfz59_0
          try clear hfz59_1
          try clear hfz59_2
          try clear hfz59_3
          try clear hfz59_4
          try clear hfz59_5
          try clear hfz68_0
          try clear hfz68_1
          try clear hfz68_2
          try clear hfz68_3
          try clear hfz68_4
          try clear hfz68_5
          try clear hfz73_0
          try clear hfz73_1
          try clear hfz73_2
          try clear hfz73_3
          try clear hfz73_4
          try clear hfz73_5
          try clear hfz75_0
          try clear hfz75_1
          try clear hfz75_2
          try clear hfz75_3
          try clear hfz75_4
          try clear hfz75_5
          try clear hfz81_0
          try clear hfz81_1
          try clear hfz81_2
          try clear hfz81_3
          try clear hfz81_4
          try clear hfz81_5
          try clear hfz84_0
          try clear hfz84_1
          try clear hfz84_2
          try clear hfz84_3
          try clear hfz84_4
          try clear hfz84_5
          try clear hfz87_0
          try clear hfz87_1
          try clear hfz87_2
          try clear hfz87_3
          try clear hfz87_4
          try clear hfz87_5
          try clear hfz90_0
          try clear hfz90_1
          try clear hfz90_2
          try clear hfz90_3
          try clear hfz90_4
          try clear hfz90_5
          try clear hfz92_0
          try clear hfz92_1
          try clear hfz92_2
          try clear hfz92_3
          try clear hfz92_4
          try clear hfz92_5
          try clear p2
          try clear p6
          obtain ⟨kq, x63_92, rfl, HA, HJ92, BK197, BK198, BK205, HI0, HK, HB⟩ := hcut
          cases kq with
          | zero => exact absurd HA.out (by simp [spec_l4Draw.j3])
          | succ kj92 =>
           have H := HA.out
           clear HA
           simp only [spec_l4Draw.j3] at H
           by_cases c95 : x63_92 = true
           rotate_left
           ·replace c95 := Bool.eq_false_iff.mpr c95
            subst c95
            rw [if_neg (show ¬ (false = true) by decide)] at H
            (try dsimp only at H)
            by_cases c112 : a1_0 = 15
            rotate_left
            ·rw [if_neg c112] at H
             have c112b0 : (a1_0 == 15) = false := beq_eq_false_iff_ne.mpr c112
             have c112b1 : (a1_0 != 15) = true := bne_iff_ne.mpr c112
             simp only [Option.some.injEq, Prod.mk.injEq] at H
             obtain ⟨rfl, rfl, rfl, rfl, rfl, rfl, rfl, rfl⟩ := H
             have hnb122 := NB197_198.out
             have hnc122 := NB198_197.out
             have hnb123 := NB197_205.out
             have hnc123 := NB205_197.out
             have hnb124 := NB197_0.out
             have hnc124 := NB0_197.out
             obtain ⟨hcz125_0, hfz125_0, hcz125_1, hfz125_1, hcz125_2, hfz125_2, hcz125_3, hfz125_3, hcz125_4, hfz125_4, hcz125_5, hfz125_5⟩ := bk6 BK197.out
             have hnb126 := NB205_198.out
             have hnc126 := NB198_205.out
             have hnb127 := NB205_0.out
             have hnc127 := NB0_205.out
             obtain ⟨hcz128_0, hfz128_0, hcz128_1, hfz128_1, hcz128_2, hfz128_2, hcz128_3, hfz128_3, hcz128_4, hfz128_4, hcz128_5, hfz128_5⟩ := bk6 BK205.out
             have hnb129 := NB198_0.out
             have hnc129 := NB0_198.out
             obtain ⟨hcz130_0, hfz130_0, hcz130_1, hfz130_1, hcz130_2, hfz130_2, hcz130_3, hfz130_3, hcz130_4, hfz130_4, hcz130_5, hfz130_5⟩ := bk6 BK198.out
             go_wp2
             refine bodyPost_ret (results_cell_row rfl _ _ gb198 29 #[.int .i64 a1_0, .int .i64 0, .int .i64 a1_1, .int .i64 (l1_3.length : Int), .slice none 0 0, .slice none 0 0] (0, 0) _ rfl (kX BK198.out) Try.underlying29 rfl (by kernel_rfl)) rfl ?_
             exact ⟨_, _, by first | rfl | (simp [errW_none, errW_some] <;> rfl) | (simp [*, errW_none, errW_some] <;> rfl), by first | exact Kd.R_nil _ _ _ _ _ | exact Kd.N_nil _ _ _ _ _ | exact Kd.V_nil _ _ _ _ _ | exact Kd.Q_nil _ _ _ _ _ | exact Kd.S_nil _ _ _ _ _, by first | exact Kd.R_nil _ _ _ _ _ | exact Kd.N_nil _ _ _ _ _ | exact Kd.V_nil _ _ _ _ _ | exact Kd.Q_nil _ _ _ _ _ | exact Kd.S_nil _ _ _ _ _, sI99, (sB99 (B := w0.heap.size) (w0 := w0)), (sG (w := w))⟩

            rw [if_pos c112] at H
            have c112b0 : (a1_0 == 15) = true := beq_iff_eq.mpr c112
            have c112b1 : (a1_0 != 15) = false := bne_eq_false_iff_eq.mpr c112
            clear c112
            simp only [Option.some.injEq, Prod.mk.injEq] at H
            obtain ⟨rfl, rfl, rfl, rfl, rfl, rfl, rfl, rfl⟩ := H
            have hnb113 := NB197_198.out
            have hnc113 := NB198_197.out
            have hnb114 := NB197_205.out
            have hnc114 := NB205_197.out
            have hnb115 := NB197_0.out
            have hnc115 := NB0_197.out
            obtain ⟨hcz116_0, hfz116_0, hcz116_1, hfz116_1, hcz116_2, hfz116_2, hcz116_3, hfz116_3, hcz116_4, hfz116_4, hcz116_5, hfz116_5⟩ := bk6 BK197.out
            have hnb117 := NB205_198.out
            have hnc117 := NB198_205.out
            have hnb118 := NB205_0.out
            have hnc118 := NB0_205.out
            obtain ⟨hcz119_0, hfz119_0, hcz119_1, hfz119_1, hcz119_2, hfz119_2, hcz119_3, hfz119_3, hcz119_4, hfz119_4, hcz119_5, hfz119_5⟩ := bk6 BK205.out
            have hnb120 := NB198_0.out
            have hnc120 := NB0_198.out
            obtain ⟨hcz121_0, hfz121_0, hcz121_1, hfz121_1, hcz121_2, hfz121_2, hcz121_3, hfz121_3, hcz121_4, hfz121_4, hcz121_5, hfz121_5⟩ := bk6 BK198.out
            go_wp2
            refine bodyPost_ret (results_cell_row rfl _ _ gb198 29 #[.int .i64 a1_0, .int .i64 0, .int .i64 a1_1, .int .i64 (l1_4.length : Int), .slice none 0 0, .slice none 0 0] (0, 0) _ rfl (kX BK198.out) Try.underlying29 rfl (by kernel_rfl)) rfl ?_
            exact ⟨_, _, by first | rfl | (simp [errW_none, errW_some] <;> rfl) | (simp [*, errW_none, errW_some] <;> rfl), by first | exact Kd.R_nil _ _ _ _ _ | exact Kd.N_nil _ _ _ _ _ | exact Kd.V_nil _ _ _ _ _ | exact Kd.Q_nil _ _ _ _ _ | exact Kd.S_nil _ _ _ _ _, by first | exact Kd.R_nil _ _ _ _ _ | exact Kd.N_nil _ _ _ _ _ | exact Kd.V_nil _ _ _ _ _ | exact Kd.Q_nil _ _ _ _ _ | exact Kd.S_nil _ _ _ _ _, sI99, (sB99 (B := w0.heap.size) (w0 := w0)), (sG (w := w))⟩
           subst c95
           rw [if_pos rfl] at H
           (try dsimp only at H)
           obtain ⟨y225, hy225⟩ : ∃ y_ : List Int, y_ = (([] : List Int)) := ⟨_, rfl⟩
           replace H : (if y225.length + l1_3.length < 17592186044416 then (some (a1_0, 0, a1_1, 0, (y225 ++ l1_3), ([] : List Bool), t200, t201)) else (none)) = some (r1, r2, r3, r4, r5, r6, r7, r8) := by first | (rw [hy225]; with_reducible exact H) | (have H2_ := (Option.bind_some _ _).symm.trans H; rw [hy225]; with_reducible exact H2_) | (have H2_ := (Option.bind_some _ _).symm.trans H; with_reducible exact H2_) | with_reducible exact H | (rw [hy225]; exact H) | exact H
           have Ny225 := aM hy225
           clear hy225
           by_cases c96 : y225.length + l1_3.length < 17592186044416
           rotate_left
           ·rw [if_neg c96] at H
            exact absurd H (by simp)
           rw [if_pos c96] at H
           have LMc96 := aM c96
           clear c96
           obtain ⟨y228, hy228⟩ : ∃ y_ : List Int, y_ = (y225 ++ l1_3) := ⟨_, rfl⟩
           replace H : (some (a1_0, 0, a1_1, 0, y228, ([] : List Bool), t200, t201)) = some (r1, r2, r3, r4, r5, r6, r7, r8) := by first | (rw [hy228]; with_reducible exact H) | (have H2_ := (Option.bind_some _ _).symm.trans H; rw [hy228]; with_reducible exact H2_) | (have H2_ := (Option.bind_some _ _).symm.trans H; with_reducible exact H2_) | with_reducible exact H | (rw [hy228]; exact H) | exact H
           have Ny228 := aM hy228
           clear hy228
           simp only [Option.some.injEq, Prod.mk.injEq] at H
           obtain ⟨rfl, rfl, rfl, rfl, rfl, rfl, rfl, rfl⟩ := H
           have hnb97 := NB197_198.out
           have hnc97 := NB198_197.out
           have hnb98 := NB197_205.out
           have hnc98 := NB205_197.out
           have hnb99 := NB197_0.out
           have hnc99 := NB0_197.out
           obtain ⟨hcz100_0, hfz100_0, hcz100_1, hfz100_1, hcz100_2, hfz100_2, hcz100_3, hfz100_3, hcz100_4, hfz100_4, hcz100_5, hfz100_5⟩ := bk6 BK197.out
           have hnb101 := NB205_198.out
           have hnc101 := NB198_205.out
           have hnb102 := NB205_0.out
           have hnc102 := NB0_205.out
           obtain ⟨hcz103_0, hfz103_0, hcz103_1, hfz103_1, hcz103_2, hfz103_2, hcz103_3, hfz103_3, hcz103_4, hfz103_4, hcz103_5, hfz103_5⟩ := bk6 BK205.out
           go_wp2_with (first | ((with_reducible refine gate_dst (N := 69) rfl ?_); refine Kd.R_lit (Kd.int .i64) _ 3 ?hg (N := 69) ?hd (xs := ([] : List Int)) (inner := []) (ok := fun _ => True) (okp := fun _ => True) ?hr ?hp (fun _ hk => hk) trivial (Below.refl _ _) (Nat.le_refl _) (by simp) ?_; (case hd => rfl); (case hg => rfl); (case hr => first | (go_simp; done) | (go_simp; rfl)); (case hp => exact (Reps.none _ _)); intro v226 w104 ho105 hb hg_ hnew_; clear hg_ hnew_; (first | rw [← Ny225.out] at ho105 | (simp only [Int.reduceToNat] at ho105; rw [← Ny225.out] at ho105)); have _ := aM (Kd.R_lower ho105 (keep_size (w := w) (g := g) (row := none) (sG (w := w)))); have _ := aM (blk_below (kF1 BK197.out NB197_205.out) hb); have _ := aM (blk_below (kF1 BK198.out NB198_205.out) hb); have _ := aM (blk_below (g := gb205) (o := .cells #[.int .i64 a1_0, .int .i64 0, .int .i64 a1_1, .int .i64 0, .slice none 0 0, .slice none 0 0] 29 (0, 0)) (kX BK205.out) hb); have _ := aM (IsS99.below (show IsS99 w0 (wc.setCell ⟨gb205, 2, none⟩ (.int .i64 a1_1)) g s0_0 t200 t201 from sI99) hb); have _ := aM (KeepBut.trans (sG (w := w)) (KeepBut.of_below hb g none) (.inl rfl)); have _ := aM (below_step (sB99 (B := w0.heap.size) (w0 := w0)) hb); clear BK197 BK198 BK205 HI0 HK HB; rename_i HO227 BK197 BK198 BK205 HI0 HK HB; clear hb ho105; obtain ⟨hcz106_0, hfz106_0, hcz106_1, hfz106_1, hcz106_2, hfz106_2, hcz106_3, hfz106_3, hcz106_4, hfz106_4, hcz106_5, hfz106_5⟩ := bk6 BK197.out) | ((with_reducible refine gate_builtin (b := .append) (xs := #[.tmp 69, .tmp 71]) rfl ?_); at_builtin; refine Kd.R_append_rows (Kd.int .i64) w.heap.size rfl (.tmp 69) (.tmp 71) 22 3 (.int .i64 0) 8 rfl Try.underlying22 info3 rfl (by decide) (by omega) v226 y225 l1_3 _ _ _ (fun _ => True) (fun _ => False) rfl rfl ?aO ?aR (fun _ _ h => h) (fun _ h => h.elim) ?aF (Below.refl _ _) ?aS ?aL ?_; (case aR => exact Kd.C_keep 0 HR1_3.out (sG (w := w)) hf1_3); (case aF => exact (fun _ _ => trivial)); (case aO => exact (rA HO227.out)); (case aS => exact (keep_size (w := w) (g := g) (row := none) (sG (w := w)))); (case aL => have := LMc96.out; omega); intro v229 w107 ho hb hg hat; rw [← Ny228.out] at ho; have _ := aM (blk_grown (g := gb197) (o := .cells #[.int .i64 a1_0, .int .i64 a1_1, .int .i64 a1_2, .slice A1_3 l1_3.length c1_3, .slice A1_4 l1_4.length c1_4, .int .i64 a1_5] 48 (0, 0)) (kA BK197.out) hg (Kd.R_ne HO227.out BK197.out (by decide))); have _ := aM (blk_grown (g := gb198) (o := .cells #[.int .i64 0, .int .i64 0, .int .i64 0, .int .i64 0, .slice none 0 0, .slice none 0 0] 29 (0, 0)) (kA BK198.out) hg (Kd.R_ne HO227.out BK198.out (by decide))); have _ := aM (blk_grown (g := gb205) (o := .cells #[.int .i64 a1_0, .int .i64 0, .int .i64 a1_1, .int .i64 0, .slice none 0 0, .slice none 0 0] 29 (0, 0)) (kA BK205.out) hg (Kd.R_ne HO227.out BK205.out (by decide))); have _ := aM (IsS99.grown sI99 hg (IsS99.own_ne HI0.out HO227.out (by decide))); have _ := aM (below_weaken (sB99 (B := w0.heap.size) (w0 := w0)) HL.out hb); have _ := aM (KeepBut.trans (sG (w := w)) (KeepBut.of_grown hg g) (Kd.R_base2 HO227.out)); have _ := aM (ho); clear BK197 BK198 BK205 HI0 HB HK HO227; rename_i BK197 BK198 BK205 HI0 HB HK HO230; clear ho hb hg hat; obtain ⟨Ao108, co108, eo108⟩ := Kd.R_slice HO230.out; subst eo108; obtain ⟨hcz109_0, hfz109_0, hcz109_1, hfz109_1, hcz109_2, hfz109_2, hcz109_3, hfz109_3, hcz109_4, hfz109_4, hcz109_5, hfz109_5⟩ := bk6 BK205.out; have hnb110 := NB198_0.out; have hnc110 := NB0_198.out; obtain ⟨hcz111_0, hfz111_0, hcz111_1, hfz111_1, hcz111_2, hfz111_2, hcz111_3, hfz111_3, hcz111_4, hfz111_4, hcz111_5, hfz111_5⟩ := bk6 BK198.out))
           refine bodyPost_ret (results_cell_row rfl _ _ gb198 29 #[.int .i64 a1_0, .int .i64 0, .int .i64 a1_1, .int .i64 0, .slice Ao108 y228.length co108, .slice none 0 0] (0, 0) _ rfl (kX BK198.out) Try.underlying29 rfl (by kernel_rfl)) rfl ?_
           exact ⟨_, _, by first | rfl | (simp [errW_none, errW_some] <;> rfl) | (simp [*, errW_none, errW_some] <;> rfl), by (with_reducible repeat (first | apply Kd.R_alloc | apply Kd.R_drewN | apply Kd.R_drew)); exact Kd.R_mono (Kd.R_far (p := ⟨gb198, 5, none⟩) (Kd.R_far (p := ⟨gb198, 4, none⟩) (Kd.R_far (p := ⟨gb198, 3, none⟩) (Kd.R_far (p := ⟨gb198, 2, none⟩) (Kd.R_far (p := ⟨gb198, 1, none⟩) (Kd.R_far (p := ⟨gb198, 0, none⟩) (Kd.R_far (p := ⟨gb205, 4, none⟩) (Kd.R_types (Kd.R_types HO230.out BK205.out (by decide)) BK198.out (by decide)) (fun _ hk => hk.1.2) (.slice Ao108 y228.length co108)) (fun _ hk => hk.2) (.int .i64 a1_0)) (fun _ hk => hk.2) (.int .i64 0)) (fun _ hk => hk.2) (.int .i64 a1_1)) (fun _ hk => hk.2) (.int .i64 0)) (fun _ hk => hk.2) (.slice Ao108 y228.length co108)) (fun _ hk => hk.2) (.slice none 0 0)) (fun _ hk => trivial), by first | exact Kd.R_nil _ _ _ _ _ | exact Kd.N_nil _ _ _ _ _ | exact Kd.V_nil _ _ _ _ _ | exact Kd.Q_nil _ _ _ _ _ | exact Kd.S_nil _ _ _ _ _, sI99, (sB99 (B := w0.heap.size) (w0 := w0)), (sG (w := w))⟩
end Go.Proofs.Ytfiplepbmennbaa.PFnTold
