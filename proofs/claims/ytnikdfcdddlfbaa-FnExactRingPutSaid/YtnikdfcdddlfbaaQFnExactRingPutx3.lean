/- Functions and contracts of the law FnExactRingPut: what the Go text computes, step by step. -/
import Derived.Test.YtnikdfcdddlfbaaL
import Derived.Test.YtnikdfcdddlfbaaQFnExactRingPutx0
import Derived.Test.YtnikdfcdddlfbaaQFnExactRingPutx1
import Derived.Test.YtnikdfcdddlfbaaQFnExactRingPutx2
namespace Go.Proofs.Ytnikdfcdddlfbaa.PFnExactRingPut
open Go.Proofs.Ytnikdfcdddlfbaa.K Go.Proofs.Ytnikdfcdddlfbaa.G Go.RowKit Go.Proofs.YtnikdfcdddlfbaaW.PrintWords Go.Proofs.YtnikdfcdddlfbaaW.PrintLast Go.Proofs.YtnikdfcdddlfbaaW.PrintMore
attribute [local go_sem] max2_int min2_int max_two min_two max_three min_three max_four min_four   -- for this text's walks alone
set_option linter.unusedVariables false
set_option linter.unusedSimpArgs false

/-! ### laws_FnExactRingPut: function 15 -/
mutual
def laws_FnExactRingPut.j0 : Nat → List Int → Int → List Int → Int → Bool → List Int → List Int → List Int → List Int → Option (Bool)
 | 0, _, _, _, _, _, _, _, _, _ => none
 | k + 1, x1, x7, x9, x11, x51, x164000, x176000, x180000, x188000 => if x51 = true then (some false) else ((laws_toRing.f k x164000).bind fun t189 => ((laws_eqRing.f k x180000 t189).bind fun t192 => (if t192 = true then ((laws_toByteS.f k x1).bind fun t193 => ((laws_eqByteS.f k x9 t193).bind fun t196 => (if t196 = true then ((laws_markRing.f k x180000 1).bind fun bt197 => ((laws_markByteS.f k x9 bt197.1).bind fun bt199 => (if bt199.1 < 0 then (laws_FnExactRingPut.j1 k x1 x7 true x164000 x176000 x188000) else ((laws_eqRing.f k x188000 x176000).bind fun t201 => (if t201 = true then (laws_FnExactRingPut.j1 k x1 x7 (x11 != x7) x164000 x176000 x188000) else (laws_FnExactRingPut.j1 k x1 x7 true x164000 x176000 x188000)))))) else (some false)))) else (some false))))
def laws_FnExactRingPut.j1 : Nat → List Int → Int → Bool → List Int → List Int → List Int → Option (Bool)
 | 0, _, _, _, _, _, _ => none
 | k + 1, x1, x7, x80, x164000, x176000, x188000 => if x80 = true then (some false) else ((laws_markRing.f k x188000 1).bind fun bt202 => ((laws_heldRing.f k bt202.2 1).bind fun t204 => (if t204 < 0 then (some false) else (if t204 = bt202.1 then ((laws_toRing.f k x164000).bind fun t205 => ((laws_toByteS.f k x1).bind fun t208 => ((impl_RingPut.f t205 t208).bind fun bt211 => ((laws_eqRing.f k bt211.1 x176000).bind fun t216 => (if t216 = true then (laws_FnExactRingPut.j2 k bt202.1 (bt211.2 != x7) bt202.2) else (laws_FnExactRingPut.j2 k bt202.1 true bt202.2)))))) else (some false)))))
def laws_FnExactRingPut.j2 : Nat → Int → Bool → List Int → Option (Bool)
 | 0, _, _, _ => none
 | k + 1, x13, x108, x188000 => if x108 = true then (some false) else ((laws_heldRing.f k x188000 1).bind fun t217 => (if t217 < 0 then (some false) else (if t217 = x13 then (some true) else (some false))))
end
def laws_FnExactRingPut.f (k : Nat) (l0_0 : List Int) (l1 : List Int) : Option (Bool) := if (l1.length : Int) > 1048576 then (some true) else ((laws_szRing.f l0_0 1048576).bind fun t164 => (if t164 < 0 then (some true) else ((laws_toRing.f k l0_0).bind fun t165 => ((laws_toByteS.f k l1).bind fun t168 => ((spec_RingPut.f t165 t168).bind fun bt171 => ((laws_toRing.f k l0_0).bind fun t176 => ((laws_toByteS.f k l1).bind fun t180 => ((impl_RingPut.f t176 t180).bind fun bt183 => ((laws_eqRing.f k bt183.1 bt171.1).bind fun t188 => (if t188 = true then (laws_FnExactRingPut.j0 k l1 bt171.2 t180 bt183.2 (bt183.2 != bt171.2) l0_0 bt171.1 t176 bt183.1) else (laws_FnExactRingPut.j0 k l1 bt171.2 t180 bt183.2 true l0_0 bt171.1 t176 bt183.1)))))))))))
theorem laws_FnExactRingPut.mono_l : ∀ k, (∀ y0 y1 y2 y3 y4 y5 y6 y7 y8, LeO (laws_FnExactRingPut.j0 k y0 y1 y2 y3 y4 y5 y6 y7 y8) (laws_FnExactRingPut.j0 (k + 1) y0 y1 y2 y3 y4 y5 y6 y7 y8)) ∧ (∀ y0 y1 y2 y3 y4 y5, LeO (laws_FnExactRingPut.j1 k y0 y1 y2 y3 y4 y5) (laws_FnExactRingPut.j1 (k + 1) y0 y1 y2 y3 y4 y5)) ∧ (∀ y0 y1 y2, LeO (laws_FnExactRingPut.j2 k y0 y1 y2) (laws_FnExactRingPut.j2 (k + 1) y0 y1 y2))
 | 0 => ⟨fun _ _ _ _ _ _ _ _ _ r h => by simp [laws_FnExactRingPut.j0] at h, fun _ _ _ _ _ _ r h => by simp [laws_FnExactRingPut.j1] at h, fun _ _ _ r h => by simp [laws_FnExactRingPut.j2] at h⟩
 | k + 1 => by
  obtain ⟨ih0, ih1, ih2⟩ := laws_FnExactRingPut.mono_l k
  refine ⟨?_, ?_, ?_⟩
  ·intro y0 y1 y2 y3 y4 y5 y6 y7 y8
   unfold laws_FnExactRingPut.j0
   repeat' first
   | (with_reducible exact ih0 _ _ _ _ _ _ _ _ _)
   | (with_reducible exact ih1 _ _ _ _ _ _)
   | (with_reducible exact ih2 _ _ _)
   | (with_reducible exact laws_eqByteS.mono _ _ _)
   | (with_reducible exact laws_eqRing.mono _ _ _)
   | (with_reducible exact laws_heldRing.mono _ _ _)
   | (with_reducible exact laws_markByteS.mono _ _ _)
   | (with_reducible exact laws_markRing.mono _ _ _)
   | (with_reducible exact laws_toByteS.mono _ _)
   | (with_reducible exact laws_toRing.mono _ _)
   | (with_reducible exact LeO.refl _)
   | (with_reducible exact LeO.none _)
   | (with_reducible refine LeO.ite ?_ ?_)
   | (with_reducible refine LeO.bind ?_ (fun _ => ?_))
   | exact ih0 _ _ _ _ _ _ _ _ _
   | exact ih1 _ _ _ _ _ _
   | exact ih2 _ _ _
   | exact laws_eqByteS.mono _ _ _
   | exact laws_eqRing.mono _ _ _
   | exact laws_heldRing.mono _ _ _
   | exact laws_markByteS.mono _ _ _
   | exact laws_markRing.mono _ _ _
   | exact laws_toByteS.mono _ _
   | exact laws_toRing.mono _ _
   | exact LeO.none _
   | refine LeO.ite ?_ ?_
   | refine LeO.bind ?_ (fun _ => ?_)
  ·intro y0 y1 y2 y3 y4 y5
   unfold laws_FnExactRingPut.j1
   repeat' first
   | (with_reducible exact ih0 _ _ _ _ _ _ _ _ _)
   | (with_reducible exact ih1 _ _ _ _ _ _)
   | (with_reducible exact ih2 _ _ _)
   | (with_reducible exact laws_eqByteS.mono _ _ _)
   | (with_reducible exact laws_eqRing.mono _ _ _)
   | (with_reducible exact laws_heldRing.mono _ _ _)
   | (with_reducible exact laws_markByteS.mono _ _ _)
   | (with_reducible exact laws_markRing.mono _ _ _)
   | (with_reducible exact laws_toByteS.mono _ _)
   | (with_reducible exact laws_toRing.mono _ _)
   | (with_reducible exact LeO.refl _)
   | (with_reducible exact LeO.none _)
   | (with_reducible refine LeO.ite ?_ ?_)
   | (with_reducible refine LeO.bind ?_ (fun _ => ?_))
   | exact ih0 _ _ _ _ _ _ _ _ _
   | exact ih1 _ _ _ _ _ _
   | exact ih2 _ _ _
   | exact laws_eqByteS.mono _ _ _
   | exact laws_eqRing.mono _ _ _
   | exact laws_heldRing.mono _ _ _
   | exact laws_markByteS.mono _ _ _
   | exact laws_markRing.mono _ _ _
   | exact laws_toByteS.mono _ _
   | exact laws_toRing.mono _ _
   | exact LeO.none _
   | refine LeO.ite ?_ ?_
   | refine LeO.bind ?_ (fun _ => ?_)
  ·intro y0 y1 y2
   unfold laws_FnExactRingPut.j2
   repeat' first
   | (with_reducible exact ih0 _ _ _ _ _ _ _ _ _)
   | (with_reducible exact ih1 _ _ _ _ _ _)
   | (with_reducible exact ih2 _ _ _)
   | (with_reducible exact laws_eqByteS.mono _ _ _)
   | (with_reducible exact laws_eqRing.mono _ _ _)
   | (with_reducible exact laws_heldRing.mono _ _ _)
   | (with_reducible exact laws_markByteS.mono _ _ _)
   | (with_reducible exact laws_markRing.mono _ _ _)
   | (with_reducible exact laws_toByteS.mono _ _)
   | (with_reducible exact laws_toRing.mono _ _)
   | (with_reducible exact LeO.refl _)
   | (with_reducible exact LeO.none _)
   | (with_reducible refine LeO.ite ?_ ?_)
   | (with_reducible refine LeO.bind ?_ (fun _ => ?_))
   | exact ih0 _ _ _ _ _ _ _ _ _
   | exact ih1 _ _ _ _ _ _
   | exact ih2 _ _ _
   | exact laws_eqByteS.mono _ _ _
   | exact laws_eqRing.mono _ _ _
   | exact laws_heldRing.mono _ _ _
   | exact laws_markByteS.mono _ _ _
   | exact laws_markRing.mono _ _ _
   | exact laws_toByteS.mono _ _
   | exact laws_toRing.mono _ _
   | exact LeO.none _
   | refine LeO.ite ?_ ?_
   | refine LeO.bind ?_ (fun _ => ?_)
theorem laws_FnExactRingPut.mono : ∀ a0 a1 k, LeO (laws_FnExactRingPut.f k a0 a1) (laws_FnExactRingPut.f (k + 1) a0 a1) := by
 intro a0 a1 k
 obtain ⟨ih0, ih1, ih2⟩ := laws_FnExactRingPut.mono_l k
 unfold laws_FnExactRingPut.f
 repeat' first
   | (with_reducible exact ih0 _ _ _ _ _ _ _ _ _)
   | (with_reducible exact ih1 _ _ _ _ _ _)
   | (with_reducible exact ih2 _ _ _)
   | (with_reducible exact laws_eqByteS.mono _ _ _)
   | (with_reducible exact laws_eqRing.mono _ _ _)
   | (with_reducible exact laws_heldRing.mono _ _ _)
   | (with_reducible exact laws_markByteS.mono _ _ _)
   | (with_reducible exact laws_markRing.mono _ _ _)
   | (with_reducible exact laws_toByteS.mono _ _)
   | (with_reducible exact laws_toRing.mono _ _)
   | (with_reducible exact LeO.refl _)
   | (with_reducible exact LeO.none _)
   | (with_reducible refine LeO.ite ?_ ?_)
   | (with_reducible refine LeO.bind ?_ (fun _ => ?_))
   | exact ih0 _ _ _ _ _ _ _ _ _
   | exact ih1 _ _ _ _ _ _
   | exact ih2 _ _ _
   | exact laws_eqByteS.mono _ _ _
   | exact laws_eqRing.mono _ _ _
   | exact laws_heldRing.mono _ _ _
   | exact laws_markByteS.mono _ _ _
   | exact laws_markRing.mono _ _ _
   | exact laws_toByteS.mono _ _
   | exact laws_toRing.mono _ _
   | exact LeO.none _
   | refine LeO.ite ?_ ?_
   | refine LeO.bind ?_ (fun _ => ?_)
set_option maxHeartbeats 8000000 in
set_option maxRecDepth 100000 in
theorem laws_FnExactRingPut.calls (k : Nat) (A0_0 : Option Addr) (c0_0 : Nat) (l0_0 : List Int) (A1 : Option Addr) (c1 : Nat) (l1 : List Int) (r : Bool) (w : World) (hr0_0 : Kd.C (Kd.int .u8) w A0_0 l0_0.length l0_0) (hc0_0 : l0_0.length ≤ c0_0) (hr1 : Kd.C (Kd.int .u8) w A1 l1.length l1) (hc1 : l1.length ≤ c1) (h : laws_FnExactRingPut.f k l0_0 l1 = some r) :
  Calls Try.prog 15 #[.agg #[.slice A0_0 l0_0.length c0_0], .slice A1 l1.length c1] w fun e w' => e = .returned (.bool r) ∧ Below w.heap.size w w' := by
 have hu24 := Try.underlying24
 have hu27 := Try.underlying27
 have HR0_0 := aM hr0_0
 have HC0_0 := aM hc0_0
 clear hr0_0 hc0_0
 have HR1 := aM hr1
 have HC1 := aM hc1
 clear hr1 hc1
 have HB := aM (Below.refl w.heap.size w)
 have H : (if (l1.length : Int) > 1048576 then (some true) else ((laws_szRing.f l0_0 1048576).bind fun t164 => (if t164 < 0 then (some true) else ((laws_toRing.f k l0_0).bind fun t165 => ((laws_toByteS.f k l1).bind fun t168 => ((spec_RingPut.f t165 t168).bind fun bt171 => ((laws_toRing.f k l0_0).bind fun t176 => ((laws_toByteS.f k l1).bind fun t180 => ((impl_RingPut.f t176 t180).bind fun bt183 => ((laws_eqRing.f k bt183.1 bt171.1).bind fun t188 => (if t188 = true then (laws_FnExactRingPut.j0 k l1 bt171.2 t180 bt183.2 (bt183.2 != bt171.2) l0_0 bt171.1 t176 bt183.1) else (laws_FnExactRingPut.j0 k l1 bt171.2 t180 bt183.2 true l0_0 bt171.1 t176 bt183.1)))))))))))) = some r := h
 clear h
 by_cases c3 : (l1.length : Int) > 1048576
 ·rw [if_pos c3] at H
  have c3b0 : decide (1048576 < (l1.length : Int)) = true := decide_eq_true c3
  have c3b1 : decide (1048576 < l1.length) = true := decide_eq_true (by omega)
  clear c3
  obtain rfl := Option.some.inj H
  go_enter Try.func15, Try.ntmps15
  go_wp2_with (first | ((with_reducible refine gate_dst (N := 2) rfl ?_); refine box_event ?hg (N := 2) ?hd (cs := #[.slice A0_0 l0_0.length c0_0]) (t := 24) ?hr ?_; (case hd => rfl); (case hg => rfl); (case hr => first | (go_simp; done) | (go_simp; rfl)); intro gb163 hg w4 hbox hb; have _ := aM (below_step (bS HB.out) hb); have _ := aM (hbox); have _ := aM (leG hg (bS HB.out)); have _ := aM (leG hg (bS HB.out)); clear HB; rename_i HB BK163 GW163 GE163; clear hb hbox hg))
  go_ret
  exact ⟨by first | rfl | (simp [errW_none, errW_some] <;> rfl) | (simp [*, errW_none, errW_some] <;> rfl), bS HB.out⟩
 ·rw [if_neg c3] at H
  have c3b0 : decide (1048576 < (l1.length : Int)) = false := decide_eq_false c3
  have c3b1 : decide (1048576 < l1.length) = false := decide_eq_false (by omega)
  clear c3
  replace H := Option.bind_eq_some_iff.mp H
  obtain ⟨t164, A50, H⟩ := H
  replace H : (if t164 < 0 then (some true) else ((laws_toRing.f k l0_0).bind fun t165 => ((laws_toByteS.f k l1).bind fun t168 => ((spec_RingPut.f t165 t168).bind fun bt171 => ((laws_toRing.f k l0_0).bind fun t176 => ((laws_toByteS.f k l1).bind fun t180 => ((impl_RingPut.f t176 t180).bind fun bt183 => ((laws_eqRing.f k bt183.1 bt171.1).bind fun t188 => (if t188 = true then (laws_FnExactRingPut.j0 k l1 bt171.2 t180 bt183.2 (bt183.2 != bt171.2) l0_0 bt171.1 t176 bt183.1) else (laws_FnExactRingPut.j0 k l1 bt171.2 t180 bt183.2 true l0_0 bt171.1 t176 bt183.1)))))))))) = some r := H
  have A5 := aM A50
  clear A50
  by_cases c6 : t164 < 0
  ·rw [if_pos c6] at H
   have c6b0 : decide (t164 < 0) = true := decide_eq_true c6
   clear c6
   obtain rfl := Option.some.inj H
   go_enter Try.func15, Try.ntmps15
   go_wp2_with (first | ((with_reducible refine gate_dst (N := 2) rfl ?_); refine box_event ?hg (N := 2) ?hd (cs := #[.slice A0_0 l0_0.length c0_0]) (t := 24) ?hr ?_; (case hd => rfl); (case hg => rfl); (case hr => first | (go_simp; done) | (go_simp; rfl)); intro gb163 hg w7 hbox hb; have _ := aM (below_step (bS HB.out) hb); have _ := aM (hbox); have _ := aM (leG hg (bS HB.out)); have _ := aM (leG hg (bS HB.out)); clear HB; rename_i HB BK163 GW163 GE163; clear hb hbox hg; obtain ⟨hcz8_0, hfz8_0⟩ := bk1 BK163.out) | ((with_reducible refine gate_callee (f := 17) rfl ?_); refine gL (some 22) rfl rfl Try.func17 (by kernel_rfl) rfl #[.agg #[.slice A0_0 l0_0.length c0_0], .int .i64 1048576] rfl ?_; (with_reducible refine (laws_szRing.calls _ _ l0_0 1048576 t164 _ ?side1 ?side2 A5.out).mono ?_); (case side1 => exact cB HR0_0.out HB.out); (case side2 => exact HC0_0.out); rintro e w9 ⟨rfl, hb⟩; refine ⟨_, rfl, ?_⟩; have _ := aM (kB BK163.out hb); have _ := aM (below_step (bS HB.out) hb); clear BK163 HB; rename_i BK163 HB; (try clear hb)))
   go_ret
   exact ⟨by first | rfl | (simp [errW_none, errW_some] <;> rfl) | (simp [*, errW_none, errW_some] <;> rfl), bS HB.out⟩
  ·rw [if_neg c6] at H
   have c6b0 : decide (t164 < 0) = false := decide_eq_false c6
   clear c6
   replace H := Option.bind_eq_some_iff.mp H
   obtain ⟨t165, A100, H⟩ := H
   replace H : ((laws_toByteS.f k l1).bind fun t168 => ((spec_RingPut.f t165 t168).bind fun bt171 => ((laws_toRing.f k l0_0).bind fun t176 => ((laws_toByteS.f k l1).bind fun t180 => ((impl_RingPut.f t176 t180).bind fun bt183 => ((laws_eqRing.f k bt183.1 bt171.1).bind fun t188 => (if t188 = true then (laws_FnExactRingPut.j0 k l1 bt171.2 t180 bt183.2 (bt183.2 != bt171.2) l0_0 bt171.1 t176 bt183.1) else (laws_FnExactRingPut.j0 k l1 bt171.2 t180 bt183.2 true l0_0 bt171.1 t176 bt183.1)))))))) = some r := H
   have A10 := aM A100
   clear A100
   replace H := Option.bind_eq_some_iff.mp H
   obtain ⟨t168, A110, H⟩ := H
   replace H : ((spec_RingPut.f t165 t168).bind fun bt171 => ((laws_toRing.f k l0_0).bind fun t176 => ((laws_toByteS.f k l1).bind fun t180 => ((impl_RingPut.f t176 t180).bind fun bt183 => ((laws_eqRing.f k bt183.1 bt171.1).bind fun t188 => (if t188 = true then (laws_FnExactRingPut.j0 k l1 bt171.2 t180 bt183.2 (bt183.2 != bt171.2) l0_0 bt171.1 t176 bt183.1) else (laws_FnExactRingPut.j0 k l1 bt171.2 t180 bt183.2 true l0_0 bt171.1 t176 bt183.1))))))) = some r := H
   have A11 := aM A110
   clear A110
   replace H := Option.bind_eq_some_iff.mp H
   obtain ⟨⟨t171, t174⟩, A120, H⟩ := H
   replace H : ((laws_toRing.f k l0_0).bind fun t176 => ((laws_toByteS.f k l1).bind fun t180 => ((impl_RingPut.f t176 t180).bind fun bt183 => ((laws_eqRing.f k bt183.1 t171).bind fun t188 => (if t188 = true then (laws_FnExactRingPut.j0 k l1 t174 t180 bt183.2 (bt183.2 != t174) l0_0 t171 t176 bt183.1) else (laws_FnExactRingPut.j0 k l1 t174 t180 bt183.2 true l0_0 t171 t176 bt183.1)))))) = some r := H
   have A12 := aM A120
   clear A120
   replace H := Option.bind_eq_some_iff.mp H
   obtain ⟨t176, A130, H⟩ := H
   replace H : ((laws_toByteS.f k l1).bind fun t180 => ((impl_RingPut.f t176 t180).bind fun bt183 => ((laws_eqRing.f k bt183.1 t171).bind fun t188 => (if t188 = true then (laws_FnExactRingPut.j0 k l1 t174 t180 bt183.2 (bt183.2 != t174) l0_0 t171 t176 bt183.1) else (laws_FnExactRingPut.j0 k l1 t174 t180 bt183.2 true l0_0 t171 t176 bt183.1))))) = some r := H
   have A13 := aM A130
   clear A130
   replace H := Option.bind_eq_some_iff.mp H
   obtain ⟨t180, A140, H⟩ := H
   replace H : ((impl_RingPut.f t176 t180).bind fun bt183 => ((laws_eqRing.f k bt183.1 t171).bind fun t188 => (if t188 = true then (laws_FnExactRingPut.j0 k l1 t174 t180 bt183.2 (bt183.2 != t174) l0_0 t171 t176 bt183.1) else (laws_FnExactRingPut.j0 k l1 t174 t180 bt183.2 true l0_0 t171 t176 bt183.1)))) = some r := H
   have A14 := aM A140
   clear A140
   replace H := Option.bind_eq_some_iff.mp H
   obtain ⟨⟨t183, t186⟩, A150, H⟩ := H
   replace H : ((laws_eqRing.f k t183 t171).bind fun t188 => (if t188 = true then (laws_FnExactRingPut.j0 k l1 t174 t180 t186 (t186 != t174) l0_0 t171 t176 t183) else (laws_FnExactRingPut.j0 k l1 t174 t180 t186 true l0_0 t171 t176 t183))) = some r := H
   have A15 := aM A150
   clear A150
   have HC16 := aM H
   clear H
   go_enter Try.func15, Try.ntmps15
   go_upto_region 11 with (first | ((with_reducible refine gate_dst (N := 2) rfl ?_); refine box_event ?hg (N := 2) ?hd (cs := #[.slice A0_0 l0_0.length c0_0]) (t := 24) ?hr ?_; (case hd => rfl); (case hg => rfl); (case hr => first | (go_simp; done) | (go_simp; rfl)); intro gb163 hg w17 hbox hb; have _ := aM (below_step (bS HB.out) hb); have _ := aM (hbox); have _ := aM (leG hg (bS HB.out)); have _ := aM (leG hg (bS HB.out)); clear HB; rename_i HB BK163 GW163 GE163; clear hb hbox hg; obtain ⟨hcz18_0, hfz18_0⟩ := bk1 BK163.out) | ((with_reducible refine gate_callee (f := 17) rfl ?_); refine gL (some 22) rfl rfl Try.func17 (by kernel_rfl) rfl #[.agg #[.slice A0_0 l0_0.length c0_0], .int .i64 1048576] rfl ?_; (with_reducible refine (laws_szRing.calls _ _ l0_0 1048576 t164 _ ?side1 ?side2 A5.out).mono ?_); (case side1 => exact cB HR0_0.out HB.out); (case side2 => exact HC0_0.out); rintro e w19 ⟨rfl, hb⟩; refine ⟨_, rfl, ?_⟩; have _ := aM (kB BK163.out hb); have _ := aM (below_step (bS HB.out) hb); clear BK163 HB; rename_i BK163 HB; (try clear hb); obtain ⟨hcz20_0, hfz20_0⟩ := bk1 BK163.out) | ((with_reducible refine gate_callee (f := 19) rfl ?_); refine gL (some 27) rfl rfl Try.func19 (by kernel_rfl) rfl #[.agg #[.slice A0_0 l0_0.length c0_0]] rfl ?_; (with_reducible refine (laws_toRing.calls k _ _ l0_0 t165 _ ?side1 ?side2 A10.out).mono ?_); (case side1 => exact cB HR0_0.out HB.out); (case side2 => exact HC0_0.out); rintro e w21 ⟨v166, rfl, ho0, hb⟩; refine ⟨_, rfl, ?_⟩; have _ := aM (Kd.R_lower ho0 (below_size (bS HB.out))); have _ := aM (kB BK163.out hb); have _ := aM (below_step (bS HB.out) hb); clear BK163 HB; rename_i HO167 BK163 HB; (try clear hb); (try clear ho0)) | ((with_reducible refine gate_callee (f := 48) rfl ?_); refine gL (some 29) rfl rfl Try.func48 (by kernel_rfl) rfl #[.slice A1 l1.length c1] rfl ?_; (with_reducible refine (laws_toByteS.calls k _ _ l1 t168 _ ?side1 ?side2 A11.out).mono ?_); (case side1 => exact cB HR1.out HB.out); (case side2 => exact HC1.out); rintro e w22 ⟨v169, rfl, ho0, hb⟩; refine ⟨_, rfl, ?_⟩; have _ := aM (Kd.R_elder' (rA HO167.out) (Kd.R_base ho0) hb); have _ := aM (Kd.R_lower (Kd.R_new' ho0 (Kd.R_lt (rA HO167.out))) (below_size (bS HB.out))); have _ := aM (kB BK163.out hb); have _ := aM (below_step (bS HB.out) hb); clear HO167 BK163 HB; rename_i HO167 HO170 BK163 HB; (try clear hb); (try clear ho0); obtain ⟨Ao23, co23, eo23⟩ := Kd.R_slice HO167.out; subst eo23; obtain ⟨Ao24, co24, eo24⟩ := Kd.R_slice HO170.out; subst eo24) | ((with_reducible refine gate_callee (f := 71) rfl ?_); refine gL (some 30) rfl rfl Try.func71 (by kernel_rfl) rfl #[.agg #[.slice Ao23 t165.length co23], .slice Ao24 t168.length co24] rfl ?_; (with_reducible refine (spec_RingPut.calls _ _ t165 _ _ t168 t171 t174 _ ?side1 ?side2 ?side3 ?side4 A12.out).mono ?_); (case side1 => exact cR HO167.out); (case side2 => exact (Kd.R_reads' HO167.out).2.1); (case side3 => exact cR HO170.out); (case side4 => exact (Kd.R_reads' HO170.out).2.1); rintro e w25 ⟨v172, rfl, ho0, hb⟩; refine ⟨_, rfl, ?_⟩; have _ := aM (Kd.R_elder' (rA HO167.out) (Kd.R_base ho0) hb); have _ := aM (Kd.R_elder' (rA HO170.out) (Kd.R_base ho0) hb); have _ := aM (Kd.R_lower (Kd.R_new' (Kd.R_new' ho0 (Kd.R_lt (rA HO167.out))) (Kd.R_lt (rA HO170.out))) (below_size (bS HB.out))); have _ := aM (kB BK163.out hb); have _ := aM (below_step (bS HB.out) hb); clear HO167 HO170 BK163 HB; rename_i HO167 HO170 HO173 BK163 HB; (try clear hb); (try clear ho0)) | ((with_reducible refine gate_dst (N := 6) rfl ?_); refine box_event ?hg (N := 6) ?hd (cs := #[.slice none 0 0]) (t := 27) ?hr ?_; (case hd => rfl); (case hg => rfl); (case hr => first | (go_simp; done) | (go_simp; rfl)); intro gb175 hg w26 hbox hb; have _ := aM (rB HO167.out hb); have _ := aM (rB HO170.out hb); have _ := aM (rB HO173.out hb); have _ := aM (kB BK163.out hb); have _ := aM (below_step (bS HB.out) hb); have _ := aM (hbox); have _ := aM (leG hg (bS HB.out)); have _ := aM (leG hg (bS HB.out)); have _ := aM (neL hg (kA BK163.out)); have _ := aM (neG hg (kA BK163.out)); clear HO167 HO170 HO173 BK163 HB; rename_i HO167 HO170 HO173 BK163 HB BK175 GW175 GE175 NB163_175 NB175_163; clear hb hbox hg; obtain ⟨Ao27, co27, eo27⟩ := Kd.R_slice HO173.out; subst eo27; have hnb28 := NB175_163.out; have hnc28 := NB163_175.out; obtain ⟨hcz29_0, hfz29_0⟩ := bk1 BK175.out; obtain ⟨hcz30_0, hfz30_0⟩ := bk1 BK163.out) | ((with_reducible refine gate_callee (f := 19) rfl ?_); refine gL (some 34) rfl rfl Try.func19 (by kernel_rfl) rfl #[.agg #[.slice A0_0 l0_0.length c0_0]] rfl ?_; (with_reducible refine (laws_toRing.calls k _ _ l0_0 t176 _ ?side1 ?side2 A13.out).mono ?_); (case side1 => exact Kd.C_below HR0_0.out (bS HB.out)); (case side2 => exact HC0_0.out); rintro e w31 ⟨v177, rfl, ho0, hb⟩; refine ⟨_, rfl, ?_⟩; have _ := aM (Kd.R_elder' (rF1 HO167.out BK175.out) (Kd.R_base ho0) hb); have _ := aM (Kd.R_elder' (rF1 HO170.out BK175.out) (Kd.R_base ho0) hb); have _ := aM (Kd.R_elder' (rF1 HO173.out BK175.out) (Kd.R_base ho0) hb); have _ := aM (Kd.R_lower (Kd.R_new' (Kd.R_new' (Kd.R_new' ho0 (Kd.R_lt (rF1 HO167.out BK175.out))) (Kd.R_lt (rF1 HO170.out BK175.out))) (Kd.R_lt (rF1 HO173.out BK175.out))) (below_size (bS HB.out))); have _ := aM (blk_below (kF1 BK163.out NB163_175.out) hb); have _ := aM (blk_below (kP1 BK175.out) hb); have _ := aM (below_step (bS HB.out) hb); clear HO167 HO170 HO173 BK163 BK175 HB; rename_i HO167 HO170 HO173 HO178 BK163 BK175 HB; (try clear hb); (try clear ho0)) | ((with_reducible refine gate_dst (N := 8) rfl ?_); refine box_event ?hg (N := 8) ?hd (cs := #[.slice none 0 0]) (t := 27) ?hr ?_; (case hd => rfl); (case hg => rfl); (case hr => first | (go_simp; done) | (go_simp; rfl)); intro gb179 hg w32 hbox hb; have _ := aM (rB HO167.out hb); have _ := aM (rB HO170.out hb); have _ := aM (rB HO173.out hb); have _ := aM (rB HO178.out hb); have _ := aM (kB BK163.out hb); have _ := aM (kB BK175.out hb); have _ := aM (below_step (bS HB.out) hb); have _ := aM (hbox); have _ := aM (leG hg (bS HB.out)); have _ := aM (leG hg (bS HB.out)); have _ := aM (neL hg (kA BK163.out)); have _ := aM (neG hg (kA BK163.out)); have _ := aM (neL hg (kA BK175.out)); have _ := aM (neG hg (kA BK175.out)); clear HO167 HO170 HO173 HO178 BK163 BK175 HB; rename_i HO167 HO170 HO173 HO178 BK163 BK175 HB BK179 GW179 GE179 NB163_179 NB179_163 NB175_179 NB179_175; clear hb hbox hg; obtain ⟨Ao33, co33, eo33⟩ := Kd.R_slice HO178.out; subst eo33; have hnb34 := NB179_163.out; have hnc34 := NB163_179.out; have hnb35 := NB179_175.out; have hnc35 := NB175_179.out; obtain ⟨hcz36_0, hfz36_0⟩ := bk1 BK179.out) | ((with_reducible refine gate_callee (f := 48) rfl ?_); refine gL (some 36) rfl rfl Try.func48 (by kernel_rfl) rfl #[.slice A1 l1.length c1] rfl ?_; (with_reducible refine (laws_toByteS.calls k _ _ l1 t180 _ ?side1 ?side2 A14.out).mono ?_); (case side1 => exact Kd.C_below HR1.out (bS HB.out)); (case side2 => exact HC1.out); rintro e w37 ⟨v181, rfl, ho0, hb⟩; refine ⟨_, rfl, ?_⟩; have _ := aM (Kd.R_elder' (rF1 HO167.out BK179.out) (Kd.R_base ho0) hb); have _ := aM (Kd.R_elder' (rF1 HO170.out BK179.out) (Kd.R_base ho0) hb); have _ := aM (Kd.R_elder' (rF1 HO173.out BK179.out) (Kd.R_base ho0) hb); have _ := aM (Kd.R_elder' (rF1 HO178.out BK179.out) (Kd.R_base ho0) hb); have _ := aM (Kd.R_lower (Kd.R_new' (Kd.R_new' (Kd.R_new' (Kd.R_new' ho0 (Kd.R_lt (rF1 HO167.out BK179.out))) (Kd.R_lt (rF1 HO170.out BK179.out))) (Kd.R_lt (rF1 HO173.out BK179.out))) (Kd.R_lt (rF1 HO178.out BK179.out))) (below_size (bS HB.out))); have _ := aM (blk_below (kF1 BK163.out NB163_179.out) hb); have _ := aM (blk_below (kF1 BK175.out NB175_179.out) hb); have _ := aM (blk_below (kP1 BK179.out) hb); have _ := aM (below_step (bS HB.out) hb); clear HO167 HO170 HO173 HO178 BK163 BK175 BK179 HB; rename_i HO167 HO170 HO173 HO178 HO182 BK163 BK175 BK179 HB; (try clear hb); (try clear ho0); obtain ⟨hcz38_0, hfz38_0⟩ := bk1 BK179.out; obtain ⟨Ao39, co39, eo39⟩ := Kd.R_slice HO182.out; subst eo39) | ((with_reducible refine gate_callee (f := 65) rfl ?_); refine gL (some 40) rfl rfl Try.func65 (by kernel_rfl) rfl #[.agg #[.slice Ao33 t176.length co33], .slice Ao39 t180.length co39] rfl ?_; (with_reducible refine (impl_RingPut.calls (fun k_ => some k_ = (.slice Ao33 t176.length co33 : Value).ownBlock) _ _ t176 (fun k_ => some k_ = (.slice Ao39 t180.length co39 : Value).ownBlock) _ _ t180 t183 t186 _ ?side1 ?side2 A15.out).mono ?_); (case side1 => exact Kd.R_V (Kd.R_tight rfl (Kd.R_types (Kd.R_types (Kd.R_types (HO178.out) BK163.out (by decide)) BK175.out (by decide)) BK179.out (by decide)))); (case side2 => exact Kd.R_V (Kd.R_tight rfl (Kd.R_types (Kd.R_types (Kd.R_types (HO182.out) BK163.out (by decide)) BK175.out (by decide)) BK179.out (by decide)))); rintro e w40 ⟨v184, rfl, ho0, hb⟩; refine ⟨_, rfl, ?_⟩; have _ := aM (Kd.R_elder' (rA HO167.out) (Kd.R_base ho0) hb); have _ := aM (Kd.R_elder' (rA HO170.out) (Kd.R_base ho0) hb); have _ := aM (Kd.R_elder' (rA HO173.out) (Kd.R_base ho0) hb); have _ := aM (Kd.R_elder' (rA HO178.out) (Kd.R_base ho0) hb); have _ := aM (Kd.R_elder' (rA HO182.out) (Kd.R_base ho0) hb); have _ := aM (Kd.R_lower (Kd.R_new' (Kd.R_new' (Kd.R_new' (Kd.R_new' (Kd.R_new' (Kd.R_mono (ok' := fun k_ => True) ho0 (fun _ hk_ => trivial)) (Kd.R_lt (rA HO167.out))) (Kd.R_lt (rA HO170.out))) (Kd.R_lt (rA HO173.out))) (Kd.R_lt (rA HO178.out))) (Kd.R_lt (rA HO182.out))) (below_size (bS HB.out))); have _ := aM (kB BK163.out hb); have _ := aM (kB BK175.out hb); have _ := aM (kB BK179.out hb); have _ := aM (below_step (bS HB.out) hb); clear HO167 HO170 HO173 HO178 HO182 BK163 BK175 BK179 HB; rename_i HO167 HO170 HO173 HO178 HO182 HO185 BK163 BK175 BK179 HB; (try clear hb); (try clear ho0)) | ((with_reducible refine gate_dst (N := 10) rfl ?_); refine box_event ?hg (N := 10) ?hd (cs := #[.slice none 0 0]) (t := 27) ?hr ?_; (case hd => rfl); (case hg => rfl); (case hr => first | (go_simp; done) | (go_simp; rfl)); intro gb187 hg w41 hbox hb; have _ := aM (rB HO167.out hb); have _ := aM (rB HO170.out hb); have _ := aM (rB HO173.out hb); have _ := aM (rB HO178.out hb); have _ := aM (rB HO182.out hb); have _ := aM (rB HO185.out hb); have _ := aM (kB BK163.out hb); have _ := aM (kB BK175.out hb); have _ := aM (kB BK179.out hb); have _ := aM (below_step (bS HB.out) hb); have _ := aM (hbox); have _ := aM (leG hg (bS HB.out)); have _ := aM (leG hg (bS HB.out)); have _ := aM (neL hg (kA BK163.out)); have _ := aM (neG hg (kA BK163.out)); have _ := aM (neL hg (kA BK175.out)); have _ := aM (neG hg (kA BK175.out)); have _ := aM (neL hg (kA BK179.out)); have _ := aM (neG hg (kA BK179.out)); clear HO167 HO170 HO173 HO178 HO182 HO185 BK163 BK175 BK179 HB; rename_i HO167 HO170 HO173 HO178 HO182 HO185 BK163 BK175 BK179 HB BK187 GW187 GE187 NB163_187 NB187_163 NB175_187 NB187_175 NB179_187 NB187_179; clear hb hbox hg; obtain ⟨Ao42, co42, eo42⟩ := Kd.R_slice HO185.out; subst eo42; have hnb43 := NB187_163.out; have hnc43 := NB163_187.out; have hnb44 := NB187_175.out; have hnc44 := NB175_187.out; have hnb45 := NB187_179.out; have hnc45 := NB179_187.out; obtain ⟨hcz46_0, hfz46_0⟩ := bk1 BK187.out))
   (try simp only [Act.put, List.setIfInBounds_toArray, List.set_cons_zero, List.set_cons_succ])
   go_cut [51] (fun v51 wc => ∃ (kq : Nat) (x51_15 : Bool), v51 = .bool x51_15 ∧ Aside0 (laws_FnExactRingPut.j0 kq l1 t174 t180 t186 x51_15 l0_0 t171 t176 t183 = some r) ∧ Aside0 (kq ≤ k) ∧ Aside0 (Kd.R (Kd.int .u8) 5 wc w.heap.size (fun k_ => some k_ ≠ ((.slice Ao27 t171.length co27) : Value).ownBlock ∧ some k_ ≠ ((.slice Ao33 t176.length co33) : Value).ownBlock ∧ some k_ ≠ ((.slice Ao42 t183.length co42) : Value).ownBlock) (.slice Ao39 t180.length co39) t180) ∧ Aside0 (Kd.R (Kd.int .u8) 5 wc w.heap.size (fun k_ => some k_ ≠ ((.slice Ao39 t180.length co39) : Value).ownBlock ∧ some k_ ≠ ((.slice Ao33 t176.length co33) : Value).ownBlock ∧ some k_ ≠ ((.slice Ao42 t183.length co42) : Value).ownBlock) (.slice Ao27 t171.length co27) t171) ∧ Aside0 (Kd.R (Kd.int .u8) 5 wc w.heap.size (fun k_ => some k_ ≠ ((.slice Ao39 t180.length co39) : Value).ownBlock ∧ some k_ ≠ ((.slice Ao27 t171.length co27) : Value).ownBlock ∧ some k_ ≠ ((.slice Ao42 t183.length co42) : Value).ownBlock) (.slice Ao33 t176.length co33) t176) ∧ Aside0 (Kd.R (Kd.int .u8) 5 wc w.heap.size (fun k_ => some k_ ≠ ((.slice Ao39 t180.length co39) : Value).ownBlock ∧ some k_ ≠ ((.slice Ao27 t171.length co27) : Value).ownBlock ∧ some k_ ≠ ((.slice Ao33 t176.length co33) : Value).ownBlock) (.slice Ao42 t183.length co42) t183) ∧ Aside0 (wc.heap[gb163]? = some (.cells #[(.slice A0_0 l0_0.length c0_0)] 24 (0, 0))) ∧ Aside0 (wc.heap[gb175]? = some (.cells #[(.slice Ao27 t171.length co27)] 27 (0, 0))) ∧ Aside0 (wc.heap[gb179]? = some (.cells #[(.slice Ao33 t176.length co33)] 27 (0, 0))) ∧ Aside0 (wc.heap[gb187]? = some (.cells #[(.slice Ao42 t183.length co42)] 27 (0, 0))) ∧ Aside0 (Below w.heap.size w wc))
   case first =>
    have H := HC16.out
    clear HC16
    replace H := Option.bind_eq_some_iff.mp H
    obtain ⟨t188, A470, H⟩ := H
    replace H : (if t188 = true then (laws_FnExactRingPut.j0 k l1 t174 t180 t186 (t186 != t174) l0_0 t171 t176 t183) else (laws_FnExactRingPut.j0 k l1 t174 t180 t186 true l0_0 t171 t176 t183)) = some r := H
    have A47 := aM A470
    clear A470
    by_cases c48 : t188 = true
    ·subst c48
     have H1 : (laws_FnExactRingPut.j0 k l1 t174 t180 t186 (t186 != t174) l0_0 t171 t176 t183) = some r := by rw [if_pos rfl] at H; exact H
     clear H
     have H := H1
     clear H1
     have H' := aM H
     clear H
     have hnb49 := NB187_163.out
     have hnc49 := NB163_187.out
     have hnb50 := NB187_175.out
     have hnc50 := NB175_187.out
     have hnb51 := NB187_179.out
     have hnc51 := NB179_187.out
     obtain ⟨hcz52_0, hfz52_0⟩ := bk1 BK187.out
     have hnb53 := NB175_163.out
     have hnc53 := NB163_175.out
     have hnb54 := NB175_179.out
     have hnc54 := NB179_175.out
     obtain ⟨hcz55_0, hfz55_0⟩ := bk1 BK175.out
     go_wp2_with (first | ((with_reducible refine gate_callee (f := 21) rfl ?_); refine gL (some 45) rfl rfl Try.func21 (by kernel_rfl) rfl #[.agg #[.slice Ao42 t183.length co42], .agg #[.slice Ao27 t171.length co27]] rfl ?_; (with_reducible refine (laws_eqRing.calls k _ _ t183 _ _ t171 true _ ?side1 ?side2 ?side3 ?side4 A47.out).mono ?_); (case side1 => exact (Kd.R_reads' (rF1 HO185.out BK187.out)).2.2); (case side2 => exact (Kd.R_reads' HO185.out).2.1); (case side3 => exact (Kd.R_reads' (rF1 HO173.out BK187.out)).2.2); (case side4 => exact (Kd.R_reads' HO173.out).2.1); rintro e w56 ⟨rfl, hb⟩; refine ⟨_, rfl, ?_⟩; have _ := aM (Kd.R_below (rF1 HO167.out BK187.out) hb); have _ := aM (Kd.R_below (rF1 HO170.out BK187.out) hb); have _ := aM (Kd.R_below (rF1 HO173.out BK187.out) hb); have _ := aM (Kd.R_below (rF1 HO178.out BK187.out) hb); have _ := aM (Kd.R_below (rF1 HO182.out BK187.out) hb); have _ := aM (Kd.R_below (rF1 HO185.out BK187.out) hb); have _ := aM (blk_below (kF1 BK163.out NB163_187.out) hb); have _ := aM (blk_below (kF1 BK175.out NB175_187.out) hb); have _ := aM (blk_below (kF1 BK179.out NB179_187.out) hb); have _ := aM (blk_below (kP1 BK187.out) hb); have _ := aM (below_step (bS HB.out) hb); clear HO167 HO170 HO173 HO178 HO182 HO185 BK163 BK175 BK179 BK187 HB; rename_i HO167 HO170 HO173 HO178 HO182 HO185 BK163 BK175 BK179 BK187 HB; (try clear hb)))
     go_meet
     case rel => exact ⟨_, ((t186 != t174)), (by first | rfl | (simp; done) | (simp [*]; done)), H', ⟨by first | omega | exact Nat.le_refl _⟩, ⟨rA (rN HO182.out)⟩, ⟨rA (rN HO173.out)⟩, ⟨rA (rN HO178.out)⟩, ⟨rA (rN HO185.out)⟩, ⟨kX BK163.out⟩, ⟨kX BK175.out⟩, ⟨kX BK179.out⟩, ⟨kX BK187.out⟩, ⟨bS HB.out⟩⟩
    ·replace c48 := Bool.eq_false_iff.mpr c48
     subst c48
     have H1 : (laws_FnExactRingPut.j0 k l1 t174 t180 t186 true l0_0 t171 t176 t183) = some r := by rw [if_neg (show ¬ (false = true) by decide)] at H; exact H
     clear H
     have H := H1
     clear H1
     have H' := aM H
     clear H
     have hnb57 := NB187_163.out
     have hnc57 := NB163_187.out
     have hnb58 := NB187_175.out
     have hnc58 := NB175_187.out
     have hnb59 := NB187_179.out
     have hnc59 := NB179_187.out
     obtain ⟨hcz60_0, hfz60_0⟩ := bk1 BK187.out
     have hnb61 := NB175_163.out
     have hnc61 := NB163_175.out
     have hnb62 := NB175_179.out
     have hnc62 := NB179_175.out
     obtain ⟨hcz63_0, hfz63_0⟩ := bk1 BK175.out
     go_wp2_with (first | ((with_reducible refine gate_callee (f := 21) rfl ?_); refine gL (some 45) rfl rfl Try.func21 (by kernel_rfl) rfl #[.agg #[.slice Ao42 t183.length co42], .agg #[.slice Ao27 t171.length co27]] rfl ?_; (with_reducible refine (laws_eqRing.calls k _ _ t183 _ _ t171 false _ ?side1 ?side2 ?side3 ?side4 A47.out).mono ?_); (case side1 => exact (Kd.R_reads' (rF1 HO185.out BK187.out)).2.2); (case side2 => exact (Kd.R_reads' HO185.out).2.1); (case side3 => exact (Kd.R_reads' (rF1 HO173.out BK187.out)).2.2); (case side4 => exact (Kd.R_reads' HO173.out).2.1); rintro e w64 ⟨rfl, hb⟩; refine ⟨_, rfl, ?_⟩; have _ := aM (Kd.R_below (rF1 HO167.out BK187.out) hb); have _ := aM (Kd.R_below (rF1 HO170.out BK187.out) hb); have _ := aM (Kd.R_below (rF1 HO173.out BK187.out) hb); have _ := aM (Kd.R_below (rF1 HO178.out BK187.out) hb); have _ := aM (Kd.R_below (rF1 HO182.out BK187.out) hb); have _ := aM (Kd.R_below (rF1 HO185.out BK187.out) hb); have _ := aM (blk_below (kF1 BK163.out NB163_187.out) hb); have _ := aM (blk_below (kF1 BK175.out NB175_187.out) hb); have _ := aM (blk_below (kF1 BK179.out NB179_187.out) hb); have _ := aM (blk_below (kP1 BK187.out) hb); have _ := aM (below_step (bS HB.out) hb); clear HO167 HO170 HO173 HO178 HO182 HO185 BK163 BK175 BK179 BK187 HB; rename_i HO167 HO170 HO173 HO178 HO182 HO185 BK163 BK175 BK179 BK187 HB; (try clear hb)))
     go_meet
     case rel => exact ⟨_, (true), (by first | rfl | (simp; done) | (simp [*]; done)), H', ⟨by first | omega | exact Nat.le_refl _⟩, ⟨rA (rN HO182.out)⟩, ⟨rA (rN HO173.out)⟩, ⟨rA (rN HO178.out)⟩, ⟨rA (rN HO185.out)⟩, ⟨kX BK163.out⟩, ⟨kX BK175.out⟩, ⟨kX BK179.out⟩, ⟨kX BK187.out⟩, ⟨bS HB.out⟩⟩
   case rest =>
    clear HC16
    try clear c1
    try clear c3
    try clear c3b0
    try clear c3b1
    try clear c6
    try clear c6b0
    try clear hcz18_0
    try clear hcz20_0
    try clear hcz29_0
    try clear hcz30_0
    try clear hcz36_0
    try clear hcz38_0
    try clear hcz46_0
    try clear hcz8_0
    try clear hfz18_0
    try clear hfz20_0
    try clear hfz29_0
    try clear hfz30_0
    try clear hfz36_0
    try clear hfz38_0
    try clear hfz46_0
    try clear hfz8_0
    obtain ⟨kq, x51_15, rfl, HA, HJ15, HO_9, HO_176000, HO_180000, HO_188000, BK163, BK175, BK179, BK187, HB⟩ := hcut
    cases kq with
    | zero => exact absurd HA.out (by simp [laws_FnExactRingPut.j0])
    | succ kj15 =>
     have H := HA.out
     clear HA
     simp only [laws_FnExactRingPut.j0] at H
     by_cases c65 : x51_15 = true
     ·subst c65
      have H1 : (some false) = some r := by rw [if_pos rfl] at H; exact H
      clear H
      have H := H1
      clear H1
      obtain rfl := Option.some.inj H
      go_wp2
      go_ret
      exact ⟨by first | rfl | (simp [errW_none, errW_some] <;> rfl) | (simp [*, errW_none, errW_some] <;> rfl), bS HB.out⟩
     ·replace c65 := Bool.eq_false_iff.mpr c65
      subst c65
      have H1 : ((laws_toRing.f kj15 l0_0).bind fun t189 => ((laws_eqRing.f kj15 t176 t189).bind fun t192 => (if t192 = true then ((laws_toByteS.f kj15 l1).bind fun t193 => ((laws_eqByteS.f kj15 t180 t193).bind fun t196 => (if t196 = true then ((laws_markRing.f kj15 t176 1).bind fun bt197 => ((laws_markByteS.f kj15 t180 bt197.1).bind fun bt199 => (if bt199.1 < 0 then (laws_FnExactRingPut.j1 kj15 l1 t174 true l0_0 t171 t183) else ((laws_eqRing.f kj15 t183 t171).bind fun t201 => (if t201 = true then (laws_FnExactRingPut.j1 kj15 l1 t174 (t186 != t174) l0_0 t171 t183) else (laws_FnExactRingPut.j1 kj15 l1 t174 true l0_0 t171 t183)))))) else (some false)))) else (some false)))) = some r := by rw [if_neg (show ¬ (false = true) by decide)] at H; exact H
      clear H
      have H := H1
      clear H1
      replace H := Option.bind_eq_some_iff.mp H
      obtain ⟨t189, A660, H⟩ := H
      replace H : ((laws_eqRing.f kj15 t176 t189).bind fun t192 => (if t192 = true then ((laws_toByteS.f kj15 l1).bind fun t193 => ((laws_eqByteS.f kj15 t180 t193).bind fun t196 => (if t196 = true then ((laws_markRing.f kj15 t176 1).bind fun bt197 => ((laws_markByteS.f kj15 t180 bt197.1).bind fun bt199 => (if bt199.1 < 0 then (laws_FnExactRingPut.j1 kj15 l1 t174 true l0_0 t171 t183) else ((laws_eqRing.f kj15 t183 t171).bind fun t201 => (if t201 = true then (laws_FnExactRingPut.j1 kj15 l1 t174 (t186 != t174) l0_0 t171 t183) else (laws_FnExactRingPut.j1 kj15 l1 t174 true l0_0 t171 t183)))))) else (some false)))) else (some false))) = some r := H
      have A66 := aM A660
      clear A660
      replace H := Option.bind_eq_some_iff.mp H
      obtain ⟨t192, A670, H⟩ := H
      replace H : (if t192 = true then ((laws_toByteS.f kj15 l1).bind fun t193 => ((laws_eqByteS.f kj15 t180 t193).bind fun t196 => (if t196 = true then ((laws_markRing.f kj15 t176 1).bind fun bt197 => ((laws_markByteS.f kj15 t180 bt197.1).bind fun bt199 => (if bt199.1 < 0 then (laws_FnExactRingPut.j1 kj15 l1 t174 true l0_0 t171 t183) else ((laws_eqRing.f kj15 t183 t171).bind fun t201 => (if t201 = true then (laws_FnExactRingPut.j1 kj15 l1 t174 (t186 != t174) l0_0 t171 t183) else (laws_FnExactRingPut.j1 kj15 l1 t174 true l0_0 t171 t183)))))) else (some false)))) else (some false)) = some r := H
      have A67 := aM A670
      clear A670
      by_cases c68 : t192 = true
      ·subst c68
       have H1 : ((laws_toByteS.f kj15 l1).bind fun t193 => ((laws_eqByteS.f kj15 t180 t193).bind fun t196 => (if t196 = true then ((laws_markRing.f kj15 t176 1).bind fun bt197 => ((laws_markByteS.f kj15 t180 bt197.1).bind fun bt199 => (if bt199.1 < 0 then (laws_FnExactRingPut.j1 kj15 l1 t174 true l0_0 t171 t183) else ((laws_eqRing.f kj15 t183 t171).bind fun t201 => (if t201 = true then (laws_FnExactRingPut.j1 kj15 l1 t174 (t186 != t174) l0_0 t171 t183) else (laws_FnExactRingPut.j1 kj15 l1 t174 true l0_0 t171 t183)))))) else (some false)))) = some r := by rw [if_pos rfl] at H; exact H
       clear H
       have H := H1
       clear H1
       replace H := Option.bind_eq_some_iff.mp H
       obtain ⟨t193, A690, H⟩ := H
       replace H : ((laws_eqByteS.f kj15 t180 t193).bind fun t196 => (if t196 = true then ((laws_markRing.f kj15 t176 1).bind fun bt197 => ((laws_markByteS.f kj15 t180 bt197.1).bind fun bt199 => (if bt199.1 < 0 then (laws_FnExactRingPut.j1 kj15 l1 t174 true l0_0 t171 t183) else ((laws_eqRing.f kj15 t183 t171).bind fun t201 => (if t201 = true then (laws_FnExactRingPut.j1 kj15 l1 t174 (t186 != t174) l0_0 t171 t183) else (laws_FnExactRingPut.j1 kj15 l1 t174 true l0_0 t171 t183)))))) else (some false))) = some r := H
       have A69 := aM A690
       clear A690
       replace H := Option.bind_eq_some_iff.mp H
       obtain ⟨t196, A700, H⟩ := H
       replace H : (if t196 = true then ((laws_markRing.f kj15 t176 1).bind fun bt197 => ((laws_markByteS.f kj15 t180 bt197.1).bind fun bt199 => (if bt199.1 < 0 then (laws_FnExactRingPut.j1 kj15 l1 t174 true l0_0 t171 t183) else ((laws_eqRing.f kj15 t183 t171).bind fun t201 => (if t201 = true then (laws_FnExactRingPut.j1 kj15 l1 t174 (t186 != t174) l0_0 t171 t183) else (laws_FnExactRingPut.j1 kj15 l1 t174 true l0_0 t171 t183)))))) else (some false)) = some r := H
       have A70 := aM A700
       clear A700
       by_cases c71 : t196 = true
       ·subst c71
        have H1 : ((laws_markRing.f kj15 t176 1).bind fun bt197 => ((laws_markByteS.f kj15 t180 bt197.1).bind fun bt199 => (if bt199.1 < 0 then (laws_FnExactRingPut.j1 kj15 l1 t174 true l0_0 t171 t183) else ((laws_eqRing.f kj15 t183 t171).bind fun t201 => (if t201 = true then (laws_FnExactRingPut.j1 kj15 l1 t174 (t186 != t174) l0_0 t171 t183) else (laws_FnExactRingPut.j1 kj15 l1 t174 true l0_0 t171 t183)))))) = some r := by rw [if_pos rfl] at H; exact H
        clear H
        have H := H1
        clear H1
        replace H := Option.bind_eq_some_iff.mp H
        obtain ⟨⟨t197, t198⟩, A720, H⟩ := H
        replace H : ((laws_markByteS.f kj15 t180 t197).bind fun bt199 => (if bt199.1 < 0 then (laws_FnExactRingPut.j1 kj15 l1 t174 true l0_0 t171 t183) else ((laws_eqRing.f kj15 t183 t171).bind fun t201 => (if t201 = true then (laws_FnExactRingPut.j1 kj15 l1 t174 (t186 != t174) l0_0 t171 t183) else (laws_FnExactRingPut.j1 kj15 l1 t174 true l0_0 t171 t183))))) = some r := H
        have A72 := aM A720
        clear A720
        replace H := Option.bind_eq_some_iff.mp H
        obtain ⟨⟨t199, t200⟩, A730, H⟩ := H
        replace H : (if t199 < 0 then (laws_FnExactRingPut.j1 kj15 l1 t174 true l0_0 t171 t183) else ((laws_eqRing.f kj15 t183 t171).bind fun t201 => (if t201 = true then (laws_FnExactRingPut.j1 kj15 l1 t174 (t186 != t174) l0_0 t171 t183) else (laws_FnExactRingPut.j1 kj15 l1 t174 true l0_0 t171 t183)))) = some r := H
        have A73 := aM A730
        clear A730
        have HC74 := aM H
        clear H
        try go_wp2
        have n0_ := aM (Kd.R_drew HO_9.out)
        have n1_ := aM (Kd.R_drew HO_176000.out)
        have n2_ := aM (Kd.R_drew HO_180000.out)
        have n3_ := aM (Kd.R_drew HO_188000.out)
        have n4_ := aM (blk_drew BK163.out)
        have n5_ := aM (blk_drew BK175.out)
        have n6_ := aM (blk_drew BK179.out)
        have n7_ := aM (blk_drew BK187.out)
        have n8_ := aM (below_drew1 HB.out)
        clear HO_9
        clear HO_176000
        clear HO_180000
        clear HO_188000
        clear BK163
        clear BK175
        clear BK179
        clear BK187
        clear HB
        have HO_9 := n0_
        have HO_176000 := n1_
        have HO_180000 := n2_
        have HO_188000 := n3_
        have BK163 := n4_
        have BK175 := n5_
        have BK179 := n6_
        have BK187 := n7_
        have HB := n8_
        clear n0_ n1_ n2_ n3_ n4_ n5_ n6_ n7_ n8_
        refine start_ (n := 5) (S := fun w' => w'.cell? ⟨gb179, 0, none⟩ = some (.slice Ao33 t176.length co33) ∧ w'.cell? ⟨gb163, 0, none⟩ = some (.slice A0_0 l0_0.length c0_0)) (ds := []) #[false, false, false, false, false] (by kernel_rfl) rfl rfl ⟨(blk_cell BK179.out 0).trans rfl, (blk_cell BK163.out 0).trans rfl⟩ (fun hHeld => ?_)
        generalize wc.drew = w75 at HO_9 HO_176000 HO_180000 HO_188000 BK163 BK175 BK179 BK187 HB hHeld ⊢
        refine take_ (i := 0) (N := some 52) (v := ?_) (a' := ?_) #[true, false, false, false, false] rfl rfl (by kernel_rfl) (fun _ _ _ h => h) (Or.inl ⟨by rfl, ?_⟩) hHeld ?_ ?_
        rotate_left
        ·rintro w' ⟨s0, s1⟩
         go_simp
         with_reducible rfl
        rotate_left
        ·simp only [Act.put, List.setIfInBounds_toArray, List.set_cons_zero, List.set_cons_succ, i64_w, i32_w]
         rfl
        refine take_ (i := 1) (N := some 53) (v := ?_) (a' := ?_) #[true, true, false, false, false] rfl rfl (by kernel_rfl) (fun _ _ _ h => h) (Or.inl ⟨by rfl, ?_⟩) hHeld ?_ ?_
        rotate_left
        ·rintro w' ⟨s0, s1⟩
         go_simp
         with_reducible rfl
        rotate_left
        ·simp only [Act.put, List.setIfInBounds_toArray, List.set_cons_zero, List.set_cons_succ, i64_w, i32_w]
         rfl
        refine one_ (i := 2) (N := some 54) #[true, true, true, false, false] rfl rfl (by kernel_rfl) (by decide) (fun K hK => ?_)
        refine goes_ Try.func19 (by kernel_rfl) rfl #[.agg #[.slice A0_0 l0_0.length c0_0]] (by rfl) rfl rfl (by (try simp only [List.map_toArray, List.map_cons, List.map_nil]); first | done | rfl | (simp only [List.length_drop, List.length_take]; rfl)) ?_
        with_reducible refine (laws_toRing.calls kj15 _ _ l0_0 t189 _ ?side1 ?side2 A66.out).mono ?_
        (case side1 => exact cB HR0_0.out HB.out)
        (case side2 => exact HC0_0.out)
        rintro e w76 ⟨v190, rfl, ho0, hb⟩
        refine ⟨_, rfl, ?_⟩
        have n0_ := aM (Kd.R_elder' (rA HO_9.out) (Kd.R_base ho0) hb)
        have n1_ := aM (Kd.R_elder' (rA HO_176000.out) (Kd.R_base ho0) hb)
        have n2_ := aM (Kd.R_elder' (rA HO_180000.out) (Kd.R_base ho0) hb)
        have n3_ := aM (Kd.R_elder' (rA HO_188000.out) (Kd.R_base ho0) hb)
        have n4_ := aM (Kd.R_lower (Kd.R_new' (Kd.R_new' (Kd.R_new' (Kd.R_new' ho0 (Kd.R_lt (rA HO_9.out))) (Kd.R_lt (rA HO_176000.out))) (Kd.R_lt (rA HO_180000.out))) (Kd.R_lt (rA HO_188000.out))) (below_size (bS HB.out)))
        have n5_ := aM (kB BK163.out hb)
        have n6_ := aM (kB BK175.out hb)
        have n7_ := aM (kB BK179.out hb)
        have n8_ := aM (kB BK187.out hb)
        have n9_ := aM (below_step (bS HB.out) hb)
        clear HO_9
        clear HO_176000
        clear HO_180000
        clear HO_188000
        clear BK163
        clear BK175
        clear BK179
        clear BK187
        clear HB
        have HO_9 := n0_
        have HO_176000 := n1_
        have HO_180000 := n2_
        have HO_188000 := n3_
        have HO191 := n4_
        have BK163 := n5_
        have BK175 := n6_
        have BK179 := n7_
        have BK187 := n8_
        have HB := n9_
        clear n0_ n1_ n2_ n3_ n4_ n5_ n6_ n7_ n8_ n9_
        (try clear hb)
        (try clear hb2)
        (try clear hk)
        (try clear hi)
        (try clear ho0)
        obtain ⟨Ao77, co77, eo77⟩ := Kd.R_slice HO191.out
        (first | subst eo77 | (injection eo77 with f1_ f2_ f3_; have f4_ := f1_.symm; have f5_ := f3_.symm; clear f1_ f2_ f3_; subst f4_; subst f5_))
        refine hK.out _ _ ⟨(blk_cell BK179.out 0).trans rfl, (blk_cell BK163.out 0).trans rfl⟩ (fun hHeld => ?_)
        clear hK K
        refine norm_ (a' := ?_) ?_ ?_
        rotate_left
        ·show Act.put _ (some 54) _ = _
         simp only [Act.put, List.setIfInBounds_toArray, List.set_cons_zero, List.set_cons_succ, i64_w, i32_w]
         rfl
        refine one_ (i := 3) (N := some 55) #[true, true, true, true, false] rfl rfl (by kernel_rfl) (by decide) (fun K hK => ?_)
        refine goes_ Try.func21 (by kernel_rfl) rfl #[.agg #[.slice Ao33 t176.length co33], .agg #[.slice Ao77 t189.length co77]] (by rfl) rfl rfl (by (try simp only [List.map_toArray, List.map_cons, List.map_nil]); first | done | rfl | (simp only [List.length_drop, List.length_take]; rfl)) ?_
        with_reducible refine (laws_eqRing.calls kj15 _ _ t176 _ _ t189 true _ ?side1 ?side2 ?side3 ?side4 A67.out).mono ?_
        (case side1 => exact cR HO_180000.out)
        (case side2 => exact (Kd.R_reads' HO_180000.out).2.1)
        (case side3 => exact cR HO191.out)
        (case side4 => exact (Kd.R_reads' HO191.out).2.1)
        rintro e w78 ⟨rfl, hb⟩
        refine ⟨_, rfl, ?_⟩
        have n0_ := aM (rB HO_9.out hb)
        have n1_ := aM (rB HO_176000.out hb)
        have n2_ := aM (rB HO_180000.out hb)
        have n3_ := aM (rB HO_188000.out hb)
        have n4_ := aM (rB HO191.out hb)
        have n5_ := aM (kB BK163.out hb)
        have n6_ := aM (kB BK175.out hb)
        have n7_ := aM (kB BK179.out hb)
        have n8_ := aM (kB BK187.out hb)
        have n9_ := aM (below_step (bS HB.out) hb)
        clear HO_9
        clear HO_176000
        clear HO_180000
        clear HO_188000
        clear HO191
        clear BK163
        clear BK175
        clear BK179
        clear BK187
        clear HB
        have HO_9 := n0_
        have HO_176000 := n1_
        have HO_180000 := n2_
        have HO_188000 := n3_
        have HO191 := n4_
        have BK163 := n5_
        have BK175 := n6_
        have BK179 := n7_
        have BK187 := n8_
        have HB := n9_
        clear n0_ n1_ n2_ n3_ n4_ n5_ n6_ n7_ n8_ n9_
        (try clear hb)
        (try clear hb2)
        (try clear hk)
        (try clear hi)
        refine hK.out _ _ ⟨(blk_cell BK179.out 0).trans rfl, (blk_cell BK163.out 0).trans rfl⟩ (fun hHeld => ?_)
        clear hK K
        refine norm_ (a' := ?_) ?_ ?_
        rotate_left
        ·show Act.put _ (some 55) _ = _
         simp only [Act.put, List.setIfInBounds_toArray, List.set_cons_zero, List.set_cons_succ, i64_w, i32_w]
         rfl
        refine pure_ (i := 4) (N := some 56) (v := ?_) (a' := ?_) #[true, true, true, true, true] rfl rfl (by kernel_rfl) (fun _ _ _ h => h) (Or.inl ⟨by rfl, ?_⟩) ?_ ?_
        rotate_left
        ·intro w'
         go_simp
         with_reducible rfl
        rotate_left
        ·simp only [Act.put, List.setIfInBounds_toArray, List.set_cons_zero, List.set_cons_succ, i64_w, i32_w]
         rfl
        refine done_ (by kernel_rfl) ?_
        go_upto_region 20 with (first | ((with_reducible refine gate_callee (f := 48) rfl ?_); refine gL (some 59) rfl rfl Try.func48 (by kernel_rfl) rfl #[.slice A1 l1.length c1] rfl ?_; (with_reducible refine (laws_toByteS.calls kj15 _ _ l1 t193 _ ?side1 ?side2 A69.out).mono ?_); (case side1 => exact cB HR1.out HB.out); (case side2 => exact HC1.out); rintro e w79 ⟨v194, rfl, ho0, hb⟩; refine ⟨_, rfl, ?_⟩; have _ := aM (Kd.R_elder' (rA HO_9.out) (Kd.R_base ho0) hb); have _ := aM (Kd.R_elder' (rA HO_176000.out) (Kd.R_base ho0) hb); have _ := aM (Kd.R_elder' (rA HO_180000.out) (Kd.R_base ho0) hb); have _ := aM (Kd.R_elder' (rA HO_188000.out) (Kd.R_base ho0) hb); have _ := aM (Kd.R_elder' (rA HO191.out) (Kd.R_base ho0) hb); have _ := aM (Kd.R_lower (Kd.R_new' (Kd.R_new' (Kd.R_new' (Kd.R_new' (Kd.R_new' ho0 (Kd.R_lt (rA HO_9.out))) (Kd.R_lt (rA HO_176000.out))) (Kd.R_lt (rA HO_180000.out))) (Kd.R_lt (rA HO_188000.out))) (Kd.R_lt (rA HO191.out))) (below_size (bS HB.out))); have _ := aM (kB BK163.out hb); have _ := aM (kB BK175.out hb); have _ := aM (kB BK179.out hb); have _ := aM (kB BK187.out hb); have _ := aM (below_step (bS HB.out) hb); clear HO_9 HO_176000 HO_180000 HO_188000 HO191 BK163 BK175 BK179 BK187 HB; rename_i HO_9 HO_176000 HO_180000 HO_188000 HO191 HO195 BK163 BK175 BK179 BK187 HB; (try clear hb); (try clear ho0); obtain ⟨Ao80, co80, eo80⟩ := Kd.R_slice HO195.out; subst eo80) | ((with_reducible refine gate_callee (f := 35) rfl ?_); refine gL (some 60) rfl rfl Try.func35 (by kernel_rfl) rfl #[.slice Ao39 t180.length co39, .slice Ao80 t193.length co80] rfl ?_; (with_reducible refine (laws_eqByteS.calls kj15 _ _ t180 _ _ t193 true _ ?side1 ?side2 ?side3 ?side4 A70.out).mono ?_); (case side1 => exact cR HO_9.out); (case side2 => exact (Kd.R_reads' HO_9.out).2.1); (case side3 => exact cR HO195.out); (case side4 => exact (Kd.R_reads' HO195.out).2.1); rintro e w' ⟨rfl, ⟨nd, rfl⟩⟩; refine ⟨_, rfl, ?_⟩; have hnb81 := NB179_163.out; have hnc81 := NB163_179.out; have hnb82 := NB179_175.out; have hnc82 := NB175_179.out; have hnb83 := NB179_187.out; have hnc83 := NB187_179.out; obtain ⟨hcz84_0, hfz84_0⟩ := bk1 BK179.out) | ((with_reducible refine gate_callee (f := 52) rfl ?_); refine gL (some 64) rfl rfl Try.func52 (by kernel_rfl) rfl #[.agg #[.slice Ao33 t176.length co33], .int .i64 1] rfl ?_; (with_reducible refine (laws_markRing.calls kj15 (fun k_ => some k_ = (.slice Ao33 t176.length co33 : Value).ownBlock) (.slice Ao33 t176.length co33) t176 1 t197 t198 w _ ?side1 ?side2 A72.out).mono ?_); (case side1 => repeat (first | (with_reducible first | exact HB.out | apply below_alloc | apply pw_below_drewN | apply below_drew1 | refine below_set ?_ GE163.out | refine below_set ?_ GE175.out | refine below_set ?_ GE179.out | refine below_set ?_ GE187.out) | exact HB.out)); (case side2 => exact Kd.R_tight rfl HO_180000.out); rintro e w85 ⟨rfl, hy0, hb, hkp⟩; refine ⟨_, rfl, ?_⟩; have _ := aM (rN (ok' := fun k_ => some k_ ≠ (.slice Ao27 t171.length co27 : Value).ownBlock ∧ some k_ ≠ (.slice Ao33 t176.length co33 : Value).ownBlock ∧ some k_ ≠ (.slice Ao42 t183.length co42 : Value).ownBlock ∧ some k_ ≠ (.slice Ao77 t189.length co77 : Value).ownBlock ∧ some k_ ≠ (.slice Ao80 t193.length co80 : Value).ownBlock) (Kd.R_keptB (HO_9.out) hkp (fun k_ hk_ hs_ => (hk_.1.1.2.1) hs_))); have _ := aM (rN (ok' := fun k_ => some k_ ≠ (.slice Ao39 t180.length co39 : Value).ownBlock ∧ some k_ ≠ (.slice Ao33 t176.length co33 : Value).ownBlock ∧ some k_ ≠ (.slice Ao42 t183.length co42 : Value).ownBlock ∧ some k_ ≠ (.slice Ao77 t189.length co77 : Value).ownBlock ∧ some k_ ≠ (.slice Ao80 t193.length co80 : Value).ownBlock) (Kd.R_keptB (HO_176000.out) hkp (fun k_ hk_ hs_ => (hk_.1.1.2.1) hs_))); have _ := aM (Kd.R_reok rfl hy0 (fun k_ e_ => HO_180000.out.1 k_ e_)); have _ := aM (rN (ok' := fun k_ => some k_ ≠ (.slice Ao39 t180.length co39 : Value).ownBlock ∧ some k_ ≠ (.slice Ao27 t171.length co27 : Value).ownBlock ∧ some k_ ≠ (.slice Ao33 t176.length co33 : Value).ownBlock ∧ some k_ ≠ (.slice Ao77 t189.length co77 : Value).ownBlock ∧ some k_ ≠ (.slice Ao80 t193.length co80 : Value).ownBlock) (Kd.R_keptB (HO_188000.out) hkp (fun k_ hk_ hs_ => (hk_.1.1.2.2) hs_))); have _ := aM (blk_kept (kA BK163.out) hkp (fun hs_ => (fun e_ => (Kd.R_ne HO_180000.out BK163.out (by decide)) e_) hs_)); have _ := aM (blk_kept (kA BK175.out) hkp (fun hs_ => (fun e_ => (Kd.R_ne HO_180000.out BK175.out (by decide)) e_) hs_)); have _ := aM (blk_kept (kA BK179.out) hkp (fun hs_ => (fun e_ => (Kd.R_ne HO_180000.out BK179.out (by decide)) e_) hs_)); have _ := aM (blk_kept (kA BK187.out) hkp (fun hs_ => (fun e_ => (Kd.R_ne HO_180000.out BK187.out (by decide)) e_) hs_)); have _ := aM (rN (ok' := fun k_ => some k_ ≠ (.slice Ao39 t180.length co39 : Value).ownBlock ∧ some k_ ≠ (.slice Ao27 t171.length co27 : Value).ownBlock ∧ some k_ ≠ (.slice Ao33 t176.length co33 : Value).ownBlock ∧ some k_ ≠ (.slice Ao42 t183.length co42 : Value).ownBlock ∧ some k_ ≠ (.slice Ao80 t193.length co80 : Value).ownBlock) (Kd.R_keptB (HO191.out) hkp (fun k_ hk_ hs_ => (hk_.1.1.2) hs_))); have _ := aM (rN (ok' := fun k_ => some k_ ≠ (.slice Ao39 t180.length co39 : Value).ownBlock ∧ some k_ ≠ (.slice Ao27 t171.length co27 : Value).ownBlock ∧ some k_ ≠ (.slice Ao33 t176.length co33 : Value).ownBlock ∧ some k_ ≠ (.slice Ao42 t183.length co42 : Value).ownBlock ∧ some k_ ≠ (.slice Ao77 t189.length co77 : Value).ownBlock) (Kd.R_keptB (HO195.out) hkp (fun k_ hk_ hs_ => (hk_.1.1.2) hs_))); have _ := aM (hb); clear HO_9 HO_176000 HO_180000 HO_188000 BK163 BK175 BK179 BK187 HO191 HO195 HB; rename_i HO_9 HO_176000 HO_180000 HO_188000 BK163 BK175 BK179 BK187 HO191 HO195 HB; (try clear hb); (try clear hkp); (try clear hy0)) | ((with_reducible refine gate_callee (f := 38) rfl ?_); refine gL (some 67) rfl rfl Try.func38 (by kernel_rfl) rfl #[.slice Ao39 t180.length co39, .int .i64 t197] rfl ?_; (with_reducible refine (laws_markByteS.calls kj15 (fun k_ => some k_ = (.slice Ao39 t180.length co39 : Value).ownBlock) (.slice Ao39 t180.length co39) t180 t197 t199 t200 w _ ?side1 ?side2 A73.out).mono ?_); (case side1 => repeat (first | (with_reducible first | exact HB.out | apply below_alloc | apply pw_below_drewN | apply below_drew1 | refine below_set ?_ GE163.out | refine below_set ?_ GE175.out | refine below_set ?_ GE179.out | refine below_set ?_ GE187.out) | exact HB.out)); (case side2 => exact Kd.R_tight rfl HO_9.out); rintro e w86 ⟨rfl, hy0, hb, hkp⟩; refine ⟨_, rfl, ?_⟩; have _ := aM (Kd.R_reok rfl hy0 (fun k_ e_ => HO_9.out.1 k_ e_)); have _ := aM (rN (ok' := fun k_ => some k_ ≠ (.slice Ao39 t180.length co39 : Value).ownBlock ∧ some k_ ≠ (.slice Ao33 t176.length co33 : Value).ownBlock ∧ some k_ ≠ (.slice Ao42 t183.length co42 : Value).ownBlock ∧ some k_ ≠ (.slice Ao77 t189.length co77 : Value).ownBlock ∧ some k_ ≠ (.slice Ao80 t193.length co80 : Value).ownBlock) (Kd.R_keptB (HO_176000.out) hkp (fun k_ hk_ hs_ => (hk_.1) hs_))); have _ := aM (rN (ok' := fun k_ => some k_ ≠ (.slice Ao39 t180.length co39 : Value).ownBlock ∧ some k_ ≠ (.slice Ao27 t171.length co27 : Value).ownBlock ∧ some k_ ≠ (.slice Ao42 t183.length co42 : Value).ownBlock ∧ some k_ ≠ (.slice Ao77 t189.length co77 : Value).ownBlock ∧ some k_ ≠ (.slice Ao80 t193.length co80 : Value).ownBlock) (Kd.R_keptB (HO_180000.out) hkp (fun k_ hk_ hs_ => (hk_.1.1.1) hs_))); have _ := aM (rN (ok' := fun k_ => some k_ ≠ (.slice Ao39 t180.length co39 : Value).ownBlock ∧ some k_ ≠ (.slice Ao27 t171.length co27 : Value).ownBlock ∧ some k_ ≠ (.slice Ao33 t176.length co33 : Value).ownBlock ∧ some k_ ≠ (.slice Ao77 t189.length co77 : Value).ownBlock ∧ some k_ ≠ (.slice Ao80 t193.length co80 : Value).ownBlock) (Kd.R_keptB (HO_188000.out) hkp (fun k_ hk_ hs_ => (hk_.1) hs_))); have _ := aM (blk_kept (kA BK163.out) hkp (fun hs_ => (fun e_ => (Kd.R_ne HO_9.out BK163.out (by decide)) e_) hs_)); have _ := aM (blk_kept (kA BK175.out) hkp (fun hs_ => (fun e_ => (Kd.R_ne HO_9.out BK175.out (by decide)) e_) hs_)); have _ := aM (blk_kept (kA BK179.out) hkp (fun hs_ => (fun e_ => (Kd.R_ne HO_9.out BK179.out (by decide)) e_) hs_)); have _ := aM (blk_kept (kA BK187.out) hkp (fun hs_ => (fun e_ => (Kd.R_ne HO_9.out BK187.out (by decide)) e_) hs_)); have _ := aM (rN (ok' := fun k_ => some k_ ≠ (.slice Ao39 t180.length co39 : Value).ownBlock ∧ some k_ ≠ (.slice Ao27 t171.length co27 : Value).ownBlock ∧ some k_ ≠ (.slice Ao33 t176.length co33 : Value).ownBlock ∧ some k_ ≠ (.slice Ao42 t183.length co42 : Value).ownBlock ∧ some k_ ≠ (.slice Ao80 t193.length co80 : Value).ownBlock) (Kd.R_keptB (HO191.out) hkp (fun k_ hk_ hs_ => (hk_.1) hs_))); have _ := aM (rN (ok' := fun k_ => some k_ ≠ (.slice Ao39 t180.length co39 : Value).ownBlock ∧ some k_ ≠ (.slice Ao27 t171.length co27 : Value).ownBlock ∧ some k_ ≠ (.slice Ao33 t176.length co33 : Value).ownBlock ∧ some k_ ≠ (.slice Ao42 t183.length co42 : Value).ownBlock ∧ some k_ ≠ (.slice Ao77 t189.length co77 : Value).ownBlock) (Kd.R_keptB (HO195.out) hkp (fun k_ hk_ hs_ => (hk_.1) hs_))); have _ := aM (hb); clear HO_9 HO_176000 HO_180000 HO_188000 BK163 BK175 BK179 BK187 HO191 HO195 HB; rename_i HO_9 HO_176000 HO_180000 HO_188000 BK163 BK175 BK179 BK187 HO191 HO195 HB; (try clear hb); (try clear hkp); (try clear hy0)))
        (try simp only [Act.put, List.setIfInBounds_toArray, List.set_cons_zero, List.set_cons_succ])
        go_cut [80] (fun v80 wc => ∃ (kq : Nat) (x80_73 : Bool), v80 = .bool x80_73 ∧ Aside0 (laws_FnExactRingPut.j1 kq l1 t174 x80_73 l0_0 t171 t183 = some r) ∧ Aside0 (kq ≤ kj15) ∧ Aside0 (Kd.R (Kd.int .u8) 5 wc w.heap.size (fun k_ => some k_ ≠ ((.slice Ao33 t176.length co33) : Value).ownBlock ∧ some k_ ≠ ((.slice Ao42 t183.length co42) : Value).ownBlock) (.slice Ao27 t171.length co27) t171) ∧ Aside0 (Kd.R (Kd.int .u8) 5 wc w.heap.size (fun k_ => some k_ ≠ ((.slice Ao27 t171.length co27) : Value).ownBlock ∧ some k_ ≠ ((.slice Ao42 t183.length co42) : Value).ownBlock) (.slice Ao33 t176.length co33) t198) ∧ Aside0 (Kd.R (Kd.int .u8) 5 wc w.heap.size (fun k_ => some k_ ≠ ((.slice Ao27 t171.length co27) : Value).ownBlock ∧ some k_ ≠ ((.slice Ao33 t176.length co33) : Value).ownBlock) (.slice Ao42 t183.length co42) t183) ∧ Aside0 (wc.heap[gb163]? = some (.cells #[(.slice A0_0 l0_0.length c0_0)] 24 (0, 0))) ∧ Aside0 (wc.heap[gb175]? = some (.cells #[(.slice Ao27 t171.length co27)] 27 (0, 0))) ∧ Aside0 (wc.heap[gb179]? = some (.cells #[(.slice Ao33 t176.length co33)] 27 (0, 0))) ∧ Aside0 (wc.heap[gb187]? = some (.cells #[(.slice Ao42 t183.length co42)] 27 (0, 0))) ∧ Aside0 (Below w.heap.size w wc))
        case first =>
         have H := HC74.out
         clear HC74
         by_cases c87 : t199 < 0
         ·rw [if_pos c87] at H
          have c87b0 : decide (t199 < 0) = true := decide_eq_true c87
          clear c87
          (first | rw [c87b0] | (simp only [i64_w, i32_w]; rw [c87b0]) | skip)
          have H' := aM H
          clear H
          go_wp2
          go_meet
          case rel => exact ⟨_, (true), (by first | rfl | (simp; done) | (simp [*]; done)), H', ⟨by have := HJ15.out; first | omega | exact Nat.le_refl _⟩, ⟨rA (rN HO_176000.out)⟩, ⟨rA (rN HO_180000.out)⟩, ⟨rA (rN HO_188000.out)⟩, ⟨kX BK163.out⟩, ⟨kX BK175.out⟩, ⟨kX BK179.out⟩, ⟨kX BK187.out⟩, ⟨bS HB.out⟩⟩
         ·rw [if_neg c87] at H
          have c87b0 : decide (t199 < 0) = false := decide_eq_false c87
          clear c87
          (first | rw [c87b0] | (simp only [i64_w, i32_w]; rw [c87b0]) | skip)
          replace H := Option.bind_eq_some_iff.mp H
          obtain ⟨t201, A880, H⟩ := H
          replace H : (if t201 = true then (laws_FnExactRingPut.j1 kj15 l1 t174 (t186 != t174) l0_0 t171 t183) else (laws_FnExactRingPut.j1 kj15 l1 t174 true l0_0 t171 t183)) = some r := H
          have A88 := aM A880
          clear A880
          by_cases c89 : t201 = true
          ·subst c89
           have H1 : (laws_FnExactRingPut.j1 kj15 l1 t174 (t186 != t174) l0_0 t171 t183) = some r := by rw [if_pos rfl] at H; exact H
           clear H
           have H := H1
           clear H1
           have H' := aM H
           clear H
           have hnb90 := NB187_163.out
           have hnc90 := NB163_187.out
           have hnb91 := NB187_175.out
           have hnc91 := NB175_187.out
           have hnb92 := NB187_179.out
           have hnc92 := NB179_187.out
           obtain ⟨hcz93_0, hfz93_0⟩ := bk1 BK187.out
           have hnb94 := NB175_163.out
           have hnc94 := NB163_175.out
           have hnb95 := NB175_179.out
           have hnc95 := NB179_175.out
           obtain ⟨hcz96_0, hfz96_0⟩ := bk1 BK175.out
           go_wp2_with (first | (go_at_call 21; (with_reducible refine (laws_eqRing.calls kj15 _ _ t183 _ _ t171 true _ ?side1 ?side2 ?side3 ?side4 A88.out).mono ?_); (case side1 => exact cR HO_188000.out); (case side2 => exact (Kd.R_reads' HO_188000.out).2.1); (case side3 => exact cR HO_176000.out); (case side4 => exact (Kd.R_reads' HO_176000.out).2.1); rintro e w97 ⟨rfl, hb⟩; have _ := aM (rB HO_9.out hb); have _ := aM (rB HO_176000.out hb); have _ := aM (rB HO_180000.out hb); have _ := aM (rB HO_188000.out hb); have _ := aM (rB HO191.out hb); have _ := aM (rB HO195.out hb); have _ := aM (kB BK163.out hb); have _ := aM (kB BK175.out hb); have _ := aM (kB BK179.out hb); have _ := aM (kB BK187.out hb); have _ := aM (below_step (bS HB.out) hb); clear HO_9 HO_176000 HO_180000 HO_188000 HO191 HO195 BK163 BK175 BK179 BK187 HB; rename_i HO_9 HO_176000 HO_180000 HO_188000 HO191 HO195 BK163 BK175 BK179 BK187 HB; (try clear hb)))
           go_meet
           case rel => exact ⟨_, ((t186 != t174)), (by first | rfl | (simp; done) | (simp [*]; done)), H', ⟨by have := HJ15.out; first | omega | exact Nat.le_refl _⟩, ⟨rA (rN HO_176000.out)⟩, ⟨rA (rN HO_180000.out)⟩, ⟨rA (rN HO_188000.out)⟩, ⟨kX BK163.out⟩, ⟨kX BK175.out⟩, ⟨kX BK179.out⟩, ⟨kX BK187.out⟩, ⟨bS HB.out⟩⟩
          ·replace c89 := Bool.eq_false_iff.mpr c89
           subst c89
           have H1 : (laws_FnExactRingPut.j1 kj15 l1 t174 true l0_0 t171 t183) = some r := by rw [if_neg (show ¬ (false = true) by decide)] at H; exact H
           clear H
           have H := H1
           clear H1
           have H' := aM H
           clear H
           have hnb98 := NB187_163.out
           have hnc98 := NB163_187.out
           have hnb99 := NB187_175.out
           have hnc99 := NB175_187.out
           have hnb100 := NB187_179.out
           have hnc100 := NB179_187.out
           obtain ⟨hcz101_0, hfz101_0⟩ := bk1 BK187.out
           have hnb102 := NB175_163.out
           have hnc102 := NB163_175.out
           have hnb103 := NB175_179.out
           have hnc103 := NB179_175.out
           obtain ⟨hcz104_0, hfz104_0⟩ := bk1 BK175.out
           go_wp2_with (first | (go_at_call 21; (with_reducible refine (laws_eqRing.calls kj15 _ _ t183 _ _ t171 false _ ?side1 ?side2 ?side3 ?side4 A88.out).mono ?_); (case side1 => exact cR HO_188000.out); (case side2 => exact (Kd.R_reads' HO_188000.out).2.1); (case side3 => exact cR HO_176000.out); (case side4 => exact (Kd.R_reads' HO_176000.out).2.1); rintro e w105 ⟨rfl, hb⟩; have _ := aM (rB HO_9.out hb); have _ := aM (rB HO_176000.out hb); have _ := aM (rB HO_180000.out hb); have _ := aM (rB HO_188000.out hb); have _ := aM (rB HO191.out hb); have _ := aM (rB HO195.out hb); have _ := aM (kB BK163.out hb); have _ := aM (kB BK175.out hb); have _ := aM (kB BK179.out hb); have _ := aM (kB BK187.out hb); have _ := aM (below_step (bS HB.out) hb); clear HO_9 HO_176000 HO_180000 HO_188000 HO191 HO195 BK163 BK175 BK179 BK187 HB; rename_i HO_9 HO_176000 HO_180000 HO_188000 HO191 HO195 BK163 BK175 BK179 BK187 HB; (try clear hb)))
           go_meet
           case rel => exact ⟨_, (true), (by first | rfl | (simp; done) | (simp [*]; done)), H', ⟨by have := HJ15.out; first | omega | exact Nat.le_refl _⟩, ⟨rA (rN HO_176000.out)⟩, ⟨rA (rN HO_180000.out)⟩, ⟨rA (rN HO_188000.out)⟩, ⟨kX BK163.out⟩, ⟨kX BK175.out⟩, ⟨kX BK179.out⟩, ⟨kX BK187.out⟩, ⟨bS HB.out⟩⟩
        case rest =>
         clear HC74
         try clear c1
         try clear c2
         try clear p2
         try clear c3
         try clear c3b0
         try clear c3b1
         try clear c4
         try clear c5
         try clear c6
         try clear c6b0
         try clear c7
         try clear c15
         try clear c17
         try clear c19
         try clear c21
         try clear c28
         try clear c34
         try clear c35
         try clear c43
         try clear c44
         try clear c45
         try clear c48
         try clear c49
         try clear c50
         try clear c51
         try clear c53
         try clear c54
         try clear c57
         try clear c58
         try clear c59
         try clear c61
         try clear c62
         try clear c65
         try clear c68
         try clear c71
         try clear hcz18_0
         try clear hcz20_0
         try clear hcz29_0
         try clear hcz30_0
         try clear hcz36_0
         try clear hcz38_0
         try clear hcz46_0
         try clear hcz52_0
         try clear hcz55_0
         try clear hcz60_0
         try clear hcz63_0
         try clear hcz84_0
         try clear hcz8_0
         try clear hfz18_0
         try clear hfz20_0
         try clear hfz29_0
         try clear hfz30_0
         try clear hfz36_0
         try clear hfz38_0
         try clear hfz46_0
         try clear hfz52_0
         try clear hfz55_0
         try clear hfz60_0
         try clear hfz63_0
         try clear hfz84_0
         try clear hfz8_0
         try clear p2
         obtain ⟨kq, x80_73, rfl, HA, HJ73, HO_176000, HO_180000, HO_188000, BK163, BK175, BK179, BK187, HB⟩ := hcut
         have hl180000_73 := (Kd.R_reads' HO_180000.out).1
         rw [hl180000_73] at HO_180000
         (try simp only [hl180000_73])
         (try simp only [hl180000_73] at BK163)
         (try simp only [hl180000_73] at BK175)
         (try simp only [hl180000_73] at BK179)
         (try simp only [hl180000_73] at BK187)
         (try simp only [hl180000_73] at HO_176000)
         (try simp only [hl180000_73] at HO_188000)
         cases kq with
         | zero => exact absurd HA.out (by simp [laws_FnExactRingPut.j1])
         | succ kj73 =>
          have H := HA.out
          clear HA
          simp only [laws_FnExactRingPut.j1] at H
          by_cases c106 : x80_73 = true
          ·subst c106
           have H1 : (some false) = some r := by rw [if_pos rfl] at H; exact H
           clear H
           have H := H1
           clear H1
           obtain rfl := Option.some.inj H
           go_wp2
           go_ret
           exact ⟨by first | rfl | (simp [errW_none, errW_some] <;> rfl) | (simp [*, errW_none, errW_some] <;> rfl), bS HB.out⟩
          ·replace c106 := Bool.eq_false_iff.mpr c106
           subst c106
           have H1 : ((laws_markRing.f kj73 t183 1).bind fun bt202 => ((laws_heldRing.f kj73 bt202.2 1).bind fun t204 => (if t204 < 0 then (some false) else (if t204 = bt202.1 then ((laws_toRing.f kj73 l0_0).bind fun t205 => ((laws_toByteS.f kj73 l1).bind fun t208 => ((impl_RingPut.f t205 t208).bind fun bt211 => ((laws_eqRing.f kj73 bt211.1 t171).bind fun t216 => (if t216 = true then (laws_FnExactRingPut.j2 kj73 bt202.1 (bt211.2 != t174) bt202.2) else (laws_FnExactRingPut.j2 kj73 bt202.1 true bt202.2)))))) else (some false))))) = some r := by rw [if_neg (show ¬ (false = true) by decide)] at H; exact H
           clear H
           have H := H1
           clear H1
           replace H := Option.bind_eq_some_iff.mp H
           obtain ⟨⟨t202, t203⟩, A1070, H⟩ := H
           replace H : ((laws_heldRing.f kj73 t203 1).bind fun t204 => (if t204 < 0 then (some false) else (if t204 = t202 then ((laws_toRing.f kj73 l0_0).bind fun t205 => ((laws_toByteS.f kj73 l1).bind fun t208 => ((impl_RingPut.f t205 t208).bind fun bt211 => ((laws_eqRing.f kj73 bt211.1 t171).bind fun t216 => (if t216 = true then (laws_FnExactRingPut.j2 kj73 t202 (bt211.2 != t174) t203) else (laws_FnExactRingPut.j2 kj73 t202 true t203)))))) else (some false)))) = some r := H
           have A107 := aM A1070
           clear A1070
           replace H := Option.bind_eq_some_iff.mp H
           obtain ⟨t204, A1080, H⟩ := H
           replace H : (if t204 < 0 then (some false) else (if t204 = t202 then ((laws_toRing.f kj73 l0_0).bind fun t205 => ((laws_toByteS.f kj73 l1).bind fun t208 => ((impl_RingPut.f t205 t208).bind fun bt211 => ((laws_eqRing.f kj73 bt211.1 t171).bind fun t216 => (if t216 = true then (laws_FnExactRingPut.j2 kj73 t202 (bt211.2 != t174) t203) else (laws_FnExactRingPut.j2 kj73 t202 true t203)))))) else (some false))) = some r := H
           have A108 := aM A1080
           clear A1080
           by_cases c109 : t204 < 0
           ·rw [if_pos c109] at H
            have c109b0 : decide (t204 < 0) = true := decide_eq_true c109
            clear c109
            obtain rfl := Option.some.inj H
            have hnb110 := NB187_163.out
            have hnc110 := NB163_187.out
            have hnb111 := NB187_175.out
            have hnc111 := NB175_187.out
            have hnb112 := NB187_179.out
            have hnc112 := NB179_187.out
            obtain ⟨hcz113_0, hfz113_0⟩ := bk1 BK187.out
            go_wp2_with (first | ((with_reducible refine gate_callee (f := 52) rfl ?_); refine gL (some 83) rfl rfl Try.func52 (by kernel_rfl) rfl #[.agg #[.slice Ao42 t183.length co42], .int .i64 1] rfl ?_; (with_reducible refine (laws_markRing.calls kj73 (fun k_ => some k_ = (.slice Ao42 t183.length co42 : Value).ownBlock) (.slice Ao42 t183.length co42) t183 1 t202 t203 w _ ?side1 ?side2 A107.out).mono ?_); (case side1 => repeat (first | (with_reducible first | exact HB.out | apply below_alloc | apply pw_below_drewN | apply below_drew1 | refine below_set ?_ GE163.out | refine below_set ?_ GE175.out | refine below_set ?_ GE179.out | refine below_set ?_ GE187.out) | exact HB.out)); (case side2 => exact Kd.R_tight rfl HO_188000.out); rintro e w114 ⟨rfl, hy0, hb, hkp⟩; refine ⟨_, rfl, ?_⟩; have _ := aM (rN (ok' := fun k_ => some k_ ≠ (.slice Ao33 t198.length co33 : Value).ownBlock ∧ some k_ ≠ (.slice Ao42 t183.length co42 : Value).ownBlock) (Kd.R_keptB (HO_176000.out) hkp (fun k_ hk_ hs_ => (hk_.2) hs_))); have _ := aM (rN (ok' := fun k_ => some k_ ≠ (.slice Ao27 t171.length co27 : Value).ownBlock ∧ some k_ ≠ (.slice Ao42 t183.length co42 : Value).ownBlock) (Kd.R_keptB (HO_180000.out) hkp (fun k_ hk_ hs_ => (hk_.2) hs_))); have _ := aM (Kd.R_reok rfl hy0 (fun k_ e_ => HO_188000.out.1 k_ e_)); have _ := aM (blk_kept (kA BK163.out) hkp (fun hs_ => (fun e_ => (Kd.R_ne HO_188000.out BK163.out (by decide)) e_) hs_)); have _ := aM (blk_kept (kA BK175.out) hkp (fun hs_ => (fun e_ => (Kd.R_ne HO_188000.out BK175.out (by decide)) e_) hs_)); have _ := aM (blk_kept (kA BK179.out) hkp (fun hs_ => (fun e_ => (Kd.R_ne HO_188000.out BK179.out (by decide)) e_) hs_)); have _ := aM (blk_kept (kA BK187.out) hkp (fun hs_ => (fun e_ => (Kd.R_ne HO_188000.out BK187.out (by decide)) e_) hs_)); have _ := aM (hb); clear HO_176000 HO_180000 HO_188000 BK163 BK175 BK179 BK187 HB; rename_i HO_176000 HO_180000 HO_188000 BK163 BK175 BK179 BK187 HB; (try clear hb); (try clear hkp); (try clear hy0); obtain ⟨hcz115_0, hfz115_0⟩ := bk1 BK187.out) | ((with_reducible refine gate_callee (f := 53) rfl ?_); refine goesL_ (some 86) rfl rfl Try.func53 (by kernel_rfl) rfl #[.agg #[.slice Ao42 t203.length co42], .int .i64 1] rfl (by (try simp only [List.map_toArray, List.map_cons, List.map_nil]); first | done | (rw [show t203.length = t183.length from (Kd.R_reads' HO_188000.out).1.symm] <;> rfl) | rfl | (simp only [List.length_drop, List.length_take]; rfl)) ?_; (with_reducible refine (laws_heldRing.calls kj73 _ _ t203 1 t204 _ ?side1 ?side2 A108.out).mono ?_); (case side1 => exact cR HO_188000.out); (case side2 => rw [show t203.length = t183.length from (Kd.R_reads' HO_188000.out).1.symm]; exact (Kd.R_reads' HO_188000.out).2.1); rintro e w116 ⟨rfl, hb⟩; refine ⟨_, rfl, ?_⟩; have _ := aM (rB HO_176000.out hb); have _ := aM (rB HO_180000.out hb); have _ := aM (rB HO_188000.out hb); have _ := aM (kB BK163.out hb); have _ := aM (kB BK175.out hb); have _ := aM (kB BK179.out hb); have _ := aM (kB BK187.out hb); have _ := aM (below_step (bS HB.out) hb); clear HO_176000 HO_180000 HO_188000 BK163 BK175 BK179 BK187 HB; rename_i HO_176000 HO_180000 HO_188000 BK163 BK175 BK179 BK187 HB; (try clear hb)))
            go_ret
            exact ⟨by first | rfl | (simp [errW_none, errW_some] <;> rfl) | (simp [*, errW_none, errW_some] <;> rfl), bS HB.out⟩
           ·rw [if_neg c109] at H
            have c109b0 : decide (t204 < 0) = false := decide_eq_false c109
            clear c109
            by_cases c117 : t204 = t202
            ·rw [if_pos c117] at H
             have c117b0 : (t204 == t202) = true := beq_iff_eq.mpr c117
             have c117b1 : (t204 != t202) = false := bne_eq_false_iff_eq.mpr c117
             clear c117
             replace H := Option.bind_eq_some_iff.mp H
             obtain ⟨t205, A1180, H⟩ := H
             replace H : ((laws_toByteS.f kj73 l1).bind fun t208 => ((impl_RingPut.f t205 t208).bind fun bt211 => ((laws_eqRing.f kj73 bt211.1 t171).bind fun t216 => (if t216 = true then (laws_FnExactRingPut.j2 kj73 t202 (bt211.2 != t174) t203) else (laws_FnExactRingPut.j2 kj73 t202 true t203))))) = some r := H
             have A118 := aM A1180
             clear A1180
             replace H := Option.bind_eq_some_iff.mp H
             obtain ⟨t208, A1190, H⟩ := H
             replace H : ((impl_RingPut.f t205 t208).bind fun bt211 => ((laws_eqRing.f kj73 bt211.1 t171).bind fun t216 => (if t216 = true then (laws_FnExactRingPut.j2 kj73 t202 (bt211.2 != t174) t203) else (laws_FnExactRingPut.j2 kj73 t202 true t203)))) = some r := H
             have A119 := aM A1190
             clear A1190
             replace H := Option.bind_eq_some_iff.mp H
             obtain ⟨⟨t211, t214⟩, A1200, H⟩ := H
             replace H : ((laws_eqRing.f kj73 t211 t171).bind fun t216 => (if t216 = true then (laws_FnExactRingPut.j2 kj73 t202 (t214 != t174) t203) else (laws_FnExactRingPut.j2 kj73 t202 true t203))) = some r := H
             have A120 := aM A1200
             clear A1200
             have HC121 := aM H
             clear H
             have hnb122 := NB187_163.out
             have hnc122 := NB163_187.out
             have hnb123 := NB187_175.out
             have hnc123 := NB175_187.out
             have hnb124 := NB187_179.out
             have hnc124 := NB179_187.out
             obtain ⟨hcz125_0, hfz125_0⟩ := bk1 BK187.out
             go_upto_region 31 with (first | ((with_reducible refine gate_callee (f := 52) rfl ?_); refine gL (some 83) rfl rfl Try.func52 (by kernel_rfl) rfl #[.agg #[.slice Ao42 t183.length co42], .int .i64 1] rfl ?_; (with_reducible refine (laws_markRing.calls kj73 (fun k_ => some k_ = (.slice Ao42 t183.length co42 : Value).ownBlock) (.slice Ao42 t183.length co42) t183 1 t202 t203 w _ ?side1 ?side2 A107.out).mono ?_); (case side1 => repeat (first | (with_reducible first | exact HB.out | apply below_alloc | apply pw_below_drewN | apply below_drew1 | refine below_set ?_ GE163.out | refine below_set ?_ GE175.out | refine below_set ?_ GE179.out | refine below_set ?_ GE187.out) | exact HB.out)); (case side2 => exact Kd.R_tight rfl HO_188000.out); rintro e w126 ⟨rfl, hy0, hb, hkp⟩; refine ⟨_, rfl, ?_⟩; have _ := aM (rN (ok' := fun k_ => some k_ ≠ (.slice Ao33 t198.length co33 : Value).ownBlock ∧ some k_ ≠ (.slice Ao42 t183.length co42 : Value).ownBlock) (Kd.R_keptB (HO_176000.out) hkp (fun k_ hk_ hs_ => (hk_.2) hs_))); have _ := aM (rN (ok' := fun k_ => some k_ ≠ (.slice Ao27 t171.length co27 : Value).ownBlock ∧ some k_ ≠ (.slice Ao42 t183.length co42 : Value).ownBlock) (Kd.R_keptB (HO_180000.out) hkp (fun k_ hk_ hs_ => (hk_.2) hs_))); have _ := aM (Kd.R_reok rfl hy0 (fun k_ e_ => HO_188000.out.1 k_ e_)); have _ := aM (blk_kept (kA BK163.out) hkp (fun hs_ => (fun e_ => (Kd.R_ne HO_188000.out BK163.out (by decide)) e_) hs_)); have _ := aM (blk_kept (kA BK175.out) hkp (fun hs_ => (fun e_ => (Kd.R_ne HO_188000.out BK175.out (by decide)) e_) hs_)); have _ := aM (blk_kept (kA BK179.out) hkp (fun hs_ => (fun e_ => (Kd.R_ne HO_188000.out BK179.out (by decide)) e_) hs_)); have _ := aM (blk_kept (kA BK187.out) hkp (fun hs_ => (fun e_ => (Kd.R_ne HO_188000.out BK187.out (by decide)) e_) hs_)); have _ := aM (hb); clear HO_176000 HO_180000 HO_188000 BK163 BK175 BK179 BK187 HB; rename_i HO_176000 HO_180000 HO_188000 BK163 BK175 BK179 BK187 HB; (try clear hb); (try clear hkp); (try clear hy0); obtain ⟨hcz127_0, hfz127_0⟩ := bk1 BK187.out) | ((with_reducible refine gate_callee (f := 53) rfl ?_); refine goesL_ (some 86) rfl rfl Try.func53 (by kernel_rfl) rfl #[.agg #[.slice Ao42 t203.length co42], .int .i64 1] rfl (by (try simp only [List.map_toArray, List.map_cons, List.map_nil]); first | done | (rw [show t203.length = t183.length from (Kd.R_reads' HO_188000.out).1.symm] <;> rfl) | rfl | (simp only [List.length_drop, List.length_take]; rfl)) ?_; (with_reducible refine (laws_heldRing.calls kj73 _ _ t203 1 t204 _ ?side1 ?side2 A108.out).mono ?_); (case side1 => exact cR HO_188000.out); (case side2 => rw [show t203.length = t183.length from (Kd.R_reads' HO_188000.out).1.symm]; exact (Kd.R_reads' HO_188000.out).2.1); rintro e w128 ⟨rfl, hb⟩; refine ⟨_, rfl, ?_⟩; have _ := aM (rB HO_176000.out hb); have _ := aM (rB HO_180000.out hb); have _ := aM (rB HO_188000.out hb); have _ := aM (kB BK163.out hb); have _ := aM (kB BK175.out hb); have _ := aM (kB BK179.out hb); have _ := aM (kB BK187.out hb); have _ := aM (below_step (bS HB.out) hb); clear HO_176000 HO_180000 HO_188000 BK163 BK175 BK179 BK187 HB; rename_i HO_176000 HO_180000 HO_188000 BK163 BK175 BK179 BK187 HB; (try clear hb); have hnb129 := NB163_175.out; have hnc129 := NB175_163.out; have hnb130 := NB163_179.out; have hnc130 := NB179_163.out; obtain ⟨hcz131_0, hfz131_0⟩ := bk1 BK163.out) | ((with_reducible refine gate_callee (f := 19) rfl ?_); refine gL (some 94) rfl rfl Try.func19 (by kernel_rfl) rfl #[.agg #[.slice A0_0 l0_0.length c0_0]] rfl ?_; (with_reducible refine (laws_toRing.calls kj73 _ _ l0_0 t205 _ ?side1 ?side2 A118.out).mono ?_); (case side1 => exact cB HR0_0.out HB.out); (case side2 => exact HC0_0.out); rintro e w132 ⟨v206, rfl, ho0, hb⟩; refine ⟨_, rfl, ?_⟩; have _ := aM (Kd.R_elder' (rA HO_176000.out) (Kd.R_base ho0) hb); have _ := aM (Kd.R_elder' (rA HO_180000.out) (Kd.R_base ho0) hb); have _ := aM (Kd.R_elder' (rA HO_188000.out) (Kd.R_base ho0) hb); have _ := aM (Kd.R_lower (Kd.R_new' (Kd.R_new' (Kd.R_new' ho0 (Kd.R_lt (rA HO_176000.out))) (Kd.R_lt (rA HO_180000.out))) (Kd.R_lt (rA HO_188000.out))) (below_size (bS HB.out))); have _ := aM (kB BK163.out hb); have _ := aM (kB BK175.out hb); have _ := aM (kB BK179.out hb); have _ := aM (kB BK187.out hb); have _ := aM (below_step (bS HB.out) hb); clear HO_176000 HO_180000 HO_188000 BK163 BK175 BK179 BK187 HB; rename_i HO_176000 HO_180000 HO_188000 HO207 BK163 BK175 BK179 BK187 HB; (try clear hb); (try clear ho0)) | ((with_reducible refine gate_callee (f := 48) rfl ?_); refine gL (some 96) rfl rfl Try.func48 (by kernel_rfl) rfl #[.slice A1 l1.length c1] rfl ?_; (with_reducible refine (laws_toByteS.calls kj73 _ _ l1 t208 _ ?side1 ?side2 A119.out).mono ?_); (case side1 => exact cB HR1.out HB.out); (case side2 => exact HC1.out); rintro e w133 ⟨v209, rfl, ho0, hb⟩; refine ⟨_, rfl, ?_⟩; have _ := aM (Kd.R_elder' (rA HO_176000.out) (Kd.R_base ho0) hb); have _ := aM (Kd.R_elder' (rA HO_180000.out) (Kd.R_base ho0) hb); have _ := aM (Kd.R_elder' (rA HO_188000.out) (Kd.R_base ho0) hb); have _ := aM (Kd.R_elder' (rA HO207.out) (Kd.R_base ho0) hb); have _ := aM (Kd.R_lower (Kd.R_new' (Kd.R_new' (Kd.R_new' (Kd.R_new' ho0 (Kd.R_lt (rA HO_176000.out))) (Kd.R_lt (rA HO_180000.out))) (Kd.R_lt (rA HO_188000.out))) (Kd.R_lt (rA HO207.out))) (below_size (bS HB.out))); have _ := aM (kB BK163.out hb); have _ := aM (kB BK175.out hb); have _ := aM (kB BK179.out hb); have _ := aM (kB BK187.out hb); have _ := aM (below_step (bS HB.out) hb); clear HO_176000 HO_180000 HO_188000 HO207 BK163 BK175 BK179 BK187 HB; rename_i HO_176000 HO_180000 HO_188000 HO207 HO210 BK163 BK175 BK179 BK187 HB; (try clear hb); (try clear ho0); obtain ⟨Ao134, co134, eo134⟩ := Kd.R_slice HO207.out; subst eo134; obtain ⟨Ao135, co135, eo135⟩ := Kd.R_slice HO210.out; subst eo135) | ((with_reducible refine gate_callee (f := 65) rfl ?_); refine gL (some 97) rfl rfl Try.func65 (by kernel_rfl) rfl #[.agg #[.slice Ao134 t205.length co134], .slice Ao135 t208.length co135] rfl ?_; (with_reducible refine (impl_RingPut.calls (fun k_ => some k_ = (.slice Ao134 t205.length co134 : Value).ownBlock) _ _ t205 (fun k_ => some k_ = (.slice Ao135 t208.length co135 : Value).ownBlock) _ _ t208 t211 t214 _ ?side1 ?side2 A120.out).mono ?_); (case side1 => exact Kd.R_V (Kd.R_tight rfl (Kd.R_types (Kd.R_types (Kd.R_types (Kd.R_types (HO207.out) BK163.out (by decide)) BK175.out (by decide)) BK179.out (by decide)) BK187.out (by decide)))); (case side2 => exact Kd.R_V (Kd.R_tight rfl (Kd.R_types (Kd.R_types (Kd.R_types (Kd.R_types (HO210.out) BK163.out (by decide)) BK175.out (by decide)) BK179.out (by decide)) BK187.out (by decide)))); rintro e w136 ⟨v212, rfl, ho0, hb⟩; refine ⟨_, rfl, ?_⟩; have _ := aM (Kd.R_elder' (rA HO_176000.out) (Kd.R_base ho0) hb); have _ := aM (Kd.R_elder' (rA HO_180000.out) (Kd.R_base ho0) hb); have _ := aM (Kd.R_elder' (rA HO_188000.out) (Kd.R_base ho0) hb); have _ := aM (Kd.R_elder' (rA HO207.out) (Kd.R_base ho0) hb); have _ := aM (Kd.R_elder' (rA HO210.out) (Kd.R_base ho0) hb); have _ := aM (Kd.R_lower (Kd.R_new' (Kd.R_new' (Kd.R_new' (Kd.R_new' (Kd.R_new' (Kd.R_mono (ok' := fun k_ => True) ho0 (fun _ hk_ => trivial)) (Kd.R_lt (rA HO_176000.out))) (Kd.R_lt (rA HO_180000.out))) (Kd.R_lt (rA HO_188000.out))) (Kd.R_lt (rA HO207.out))) (Kd.R_lt (rA HO210.out))) (below_size (bS HB.out))); have _ := aM (kB BK163.out hb); have _ := aM (kB BK175.out hb); have _ := aM (kB BK179.out hb); have _ := aM (kB BK187.out hb); have _ := aM (below_step (bS HB.out) hb); clear HO_176000 HO_180000 HO_188000 HO207 HO210 BK163 BK175 BK179 BK187 HB; rename_i HO_176000 HO_180000 HO_188000 HO207 HO210 HO213 BK163 BK175 BK179 BK187 HB; (try clear hb); (try clear ho0)) | ((with_reducible refine gate_dst (N := 15) rfl ?_); refine box_event ?hg (N := 15) ?hd (cs := #[.slice none 0 0]) (t := 27) ?hr ?_; (case hd => rfl); (case hg => rfl); (case hr => first | (go_simp; done) | (go_simp; rfl)); intro gb215 hg w137 hbox hb; have _ := aM (rB HO_176000.out hb); have _ := aM (rB HO_180000.out hb); have _ := aM (rB HO_188000.out hb); have _ := aM (rB HO207.out hb); have _ := aM (rB HO210.out hb); have _ := aM (rB HO213.out hb); have _ := aM (kB BK163.out hb); have _ := aM (kB BK175.out hb); have _ := aM (kB BK179.out hb); have _ := aM (kB BK187.out hb); have _ := aM (below_step (bS HB.out) hb); have _ := aM (hbox); have _ := aM (leG hg (bS HB.out)); have _ := aM (leG hg (bS HB.out)); have _ := aM (neL hg (kA BK163.out)); have _ := aM (neG hg (kA BK163.out)); have _ := aM (neL hg (kA BK175.out)); have _ := aM (neG hg (kA BK175.out)); have _ := aM (neL hg (kA BK179.out)); have _ := aM (neG hg (kA BK179.out)); have _ := aM (neL hg (kA BK187.out)); have _ := aM (neG hg (kA BK187.out)); clear HO_176000 HO_180000 HO_188000 HO207 HO210 HO213 BK163 BK175 BK179 BK187 HB; rename_i HO_176000 HO_180000 HO_188000 HO207 HO210 HO213 BK163 BK175 BK179 BK187 HB BK215 GW215 GE215 NB163_215 NB215_163 NB175_215 NB215_175 NB179_215 NB215_179 NB187_215 NB215_187; clear hb hbox hg; obtain ⟨Ao138, co138, eo138⟩ := Kd.R_slice HO213.out; subst eo138; have hnb139 := NB215_163.out; have hnc139 := NB163_215.out; have hnb140 := NB215_175.out; have hnc140 := NB175_215.out; have hnb141 := NB215_179.out; have hnc141 := NB179_215.out; have hnb142 := NB215_187.out; have hnc142 := NB187_215.out; obtain ⟨hcz143_0, hfz143_0⟩ := bk1 BK215.out))
             (try simp only [Act.put, List.setIfInBounds_toArray, List.set_cons_zero, List.set_cons_succ])
             go_cut [108] (fun v108 wc => ∃ (kq : Nat) (x108_120 : Bool), v108 = .bool x108_120 ∧ Aside0 (laws_FnExactRingPut.j2 kq t202 x108_120 t203 = some r) ∧ Aside0 (kq ≤ kj73) ∧ Aside0 (Kd.R (Kd.int .u8) 5 wc w.heap.size (fun k_ => some k_ ≠ ((.slice Ao33 t198.length co33) : Value).ownBlock ∧ some k_ ≠ ((.slice Ao42 t183.length co42) : Value).ownBlock ∧ some k_ ≠ ((.slice Ao138 t211.length co138) : Value).ownBlock) (.slice Ao27 t171.length co27) t171) ∧ Aside0 (Kd.R (Kd.int .u8) 5 wc w.heap.size (fun k_ => some k_ ≠ ((.slice Ao27 t171.length co27) : Value).ownBlock ∧ some k_ ≠ ((.slice Ao42 t183.length co42) : Value).ownBlock ∧ some k_ ≠ ((.slice Ao138 t211.length co138) : Value).ownBlock) (.slice Ao33 t198.length co33) t198) ∧ Aside0 (Kd.R (Kd.int .u8) 5 wc w.heap.size (fun k_ => some k_ ≠ ((.slice Ao27 t171.length co27) : Value).ownBlock ∧ some k_ ≠ ((.slice Ao33 t198.length co33) : Value).ownBlock ∧ some k_ ≠ ((.slice Ao138 t211.length co138) : Value).ownBlock) (.slice Ao42 t183.length co42) t203) ∧ Aside0 (Kd.R (Kd.int .u8) 5 wc w.heap.size (fun k_ => some k_ ≠ ((.slice Ao27 t171.length co27) : Value).ownBlock ∧ some k_ ≠ ((.slice Ao33 t198.length co33) : Value).ownBlock ∧ some k_ ≠ ((.slice Ao42 t183.length co42) : Value).ownBlock) (.slice Ao138 t211.length co138) t211) ∧ Aside0 (wc.heap[gb163]? = some (.cells #[(.slice A0_0 l0_0.length c0_0)] 24 (0, 0))) ∧ Aside0 (wc.heap[gb175]? = some (.cells #[(.slice Ao27 t171.length co27)] 27 (0, 0))) ∧ Aside0 (wc.heap[gb179]? = some (.cells #[(.slice Ao33 t198.length co33)] 27 (0, 0))) ∧ Aside0 (wc.heap[gb187]? = some (.cells #[(.slice Ao42 t183.length co42)] 27 (0, 0))) ∧ Aside0 (wc.heap[gb215]? = some (.cells #[(.slice Ao138 t211.length co138)] 27 (0, 0))) ∧ Aside0 (Below w.heap.size w wc))
             case first =>
              have H := HC121.out
              clear HC121
              replace H := Option.bind_eq_some_iff.mp H
              obtain ⟨t216, A1440, H⟩ := H
              replace H : (if t216 = true then (laws_FnExactRingPut.j2 kj73 t202 (t214 != t174) t203) else (laws_FnExactRingPut.j2 kj73 t202 true t203)) = some r := H
              have A144 := aM A1440
              clear A1440
              by_cases c145 : t216 = true
              ·subst c145
               have H1 : (laws_FnExactRingPut.j2 kj73 t202 (t214 != t174) t203) = some r := by rw [if_pos rfl] at H; exact H
               clear H
               have H := H1
               clear H1
               have H' := aM H
               clear H
               have hnb146 := NB215_163.out
               have hnc146 := NB163_215.out
               have hnb147 := NB215_175.out
               have hnc147 := NB175_215.out
               have hnb148 := NB215_179.out
               have hnc148 := NB179_215.out
               have hnb149 := NB215_187.out
               have hnc149 := NB187_215.out
               obtain ⟨hcz150_0, hfz150_0⟩ := bk1 BK215.out
               have hnb151 := NB175_163.out
               have hnc151 := NB163_175.out
               have hnb152 := NB175_179.out
               have hnc152 := NB179_175.out
               have hnb153 := NB175_187.out
               have hnc153 := NB187_175.out
               obtain ⟨hcz154_0, hfz154_0⟩ := bk1 BK175.out
               go_wp2_with (first | ((with_reducible refine gate_callee (f := 21) rfl ?_); refine gL (some 102) rfl rfl Try.func21 (by kernel_rfl) rfl #[.agg #[.slice Ao138 t211.length co138], .agg #[.slice Ao27 t171.length co27]] rfl ?_; (with_reducible refine (laws_eqRing.calls kj73 _ _ t211 _ _ t171 true _ ?side1 ?side2 ?side3 ?side4 A144.out).mono ?_); (case side1 => exact (Kd.R_reads' (rF1 HO213.out BK215.out)).2.2); (case side2 => exact (Kd.R_reads' HO213.out).2.1); (case side3 => exact (Kd.R_reads' (rF1 HO_176000.out BK215.out)).2.2); (case side4 => exact (Kd.R_reads' HO_176000.out).2.1); rintro e w155 ⟨rfl, hb⟩; refine ⟨_, rfl, ?_⟩; have _ := aM (Kd.R_below (rF1 HO_176000.out BK215.out) hb); have _ := aM (Kd.R_below (rF1 HO_180000.out BK215.out) hb); have _ := aM (Kd.R_below (rF1 HO_188000.out BK215.out) hb); have _ := aM (Kd.R_below (rF1 HO207.out BK215.out) hb); have _ := aM (Kd.R_below (rF1 HO210.out BK215.out) hb); have _ := aM (Kd.R_below (rF1 HO213.out BK215.out) hb); have _ := aM (blk_below (kF1 BK163.out NB163_215.out) hb); have _ := aM (blk_below (kF1 BK175.out NB175_215.out) hb); have _ := aM (blk_below (kF1 BK179.out NB179_215.out) hb); have _ := aM (blk_below (kF1 BK187.out NB187_215.out) hb); have _ := aM (blk_below (kP1 BK215.out) hb); have _ := aM (below_step (bS HB.out) hb); clear HO_176000 HO_180000 HO_188000 HO207 HO210 HO213 BK163 BK175 BK179 BK187 BK215 HB; rename_i HO_176000 HO_180000 HO_188000 HO207 HO210 HO213 BK163 BK175 BK179 BK187 BK215 HB; (try clear hb)))
               go_meet
               case rel => exact ⟨_, ((t214 != t174)), (by first | rfl | (simp; done) | (simp [*]; done)), H', ⟨by have := HJ15.out; have := HJ73.out; first | omega | exact Nat.le_refl _⟩, ⟨by (try simp only [hl180000_73]); (with_reducible repeat (first | apply Kd.R_alloc | apply Kd.R_drewN | apply Kd.R_drew)); exact Kd.R_mono HO_176000.out (fun _ hk => by first | exact ⟨hk.1.1.1.1, ⟨hk.1.1.1.2, hk.2⟩⟩ | (simp only [ne_eq] at hk ⊢; simp [hk]))⟩, ⟨by (try simp only [hl180000_73]); (with_reducible repeat (first | apply Kd.R_alloc | apply Kd.R_drewN | apply Kd.R_drew)); exact Kd.R_mono HO_180000.out (fun _ hk => by first | exact ⟨hk.1.1.1.1, ⟨hk.1.1.1.2, hk.2⟩⟩ | (simp only [ne_eq] at hk ⊢; simp [hk]))⟩, ⟨by (try simp only [hl180000_73]); (with_reducible repeat (first | apply Kd.R_alloc | apply Kd.R_drewN | apply Kd.R_drew)); exact Kd.R_mono HO_188000.out (fun _ hk => by first | exact ⟨hk.1.1.1.1, ⟨hk.1.1.1.2, hk.2⟩⟩ | (simp only [ne_eq] at hk ⊢; simp [hk]))⟩, ⟨by (try simp only [hl180000_73]); (with_reducible repeat (first | apply Kd.R_alloc | apply Kd.R_drewN | apply Kd.R_drew)); exact Kd.R_mono HO213.out (fun _ hk => by first | exact ⟨hk.1.1.1.1.2, ⟨hk.1.1.1.2, hk.1.1.2⟩⟩ | (simp only [ne_eq] at hk ⊢; simp [hk]))⟩, ⟨by (try simp only [hl180000_73]); (with_reducible repeat (first | refine blk_drewN ?_ _ | refine blk_drew ?_ | refine blk_alloc ?_ _)); exact BK163.out⟩, ⟨by (try simp only [hl180000_73]); (with_reducible repeat (first | refine blk_drewN ?_ _ | refine blk_drew ?_ | refine blk_alloc ?_ _)); exact BK175.out⟩, ⟨by (try simp only [hl180000_73]); (with_reducible repeat (first | refine blk_drewN ?_ _ | refine blk_drew ?_ | refine blk_alloc ?_ _)); exact BK179.out⟩, ⟨by (try simp only [hl180000_73]); (with_reducible repeat (first | refine blk_drewN ?_ _ | refine blk_drew ?_ | refine blk_alloc ?_ _)); exact BK187.out⟩, ⟨by (try simp only [hl180000_73]); (with_reducible repeat (first | refine blk_drewN ?_ _ | refine blk_drew ?_ | refine blk_alloc ?_ _)); exact BK215.out⟩, ⟨bS HB.out⟩⟩
              ·replace c145 := Bool.eq_false_iff.mpr c145
               subst c145
               have H1 : (laws_FnExactRingPut.j2 kj73 t202 true t203) = some r := by rw [if_neg (show ¬ (false = true) by decide)] at H; exact H
               clear H
               have H := H1
               clear H1
               have H' := aM H
               clear H
               have hnb156 := NB215_163.out
               have hnc156 := NB163_215.out
               have hnb157 := NB215_175.out
               have hnc157 := NB175_215.out
               have hnb158 := NB215_179.out
               have hnc158 := NB179_215.out
               have hnb159 := NB215_187.out
               have hnc159 := NB187_215.out
               obtain ⟨hcz160_0, hfz160_0⟩ := bk1 BK215.out
               have hnb161 := NB175_163.out
               have hnc161 := NB163_175.out
               have hnb162 := NB175_179.out
               have hnc162 := NB179_175.out
               have hnb163 := NB175_187.out
               have hnc163 := NB187_175.out
               obtain ⟨hcz164_0, hfz164_0⟩ := bk1 BK175.out
               go_wp2_with (first | ((with_reducible refine gate_callee (f := 21) rfl ?_); refine gL (some 102) rfl rfl Try.func21 (by kernel_rfl) rfl #[.agg #[.slice Ao138 t211.length co138], .agg #[.slice Ao27 t171.length co27]] rfl ?_; (with_reducible refine (laws_eqRing.calls kj73 _ _ t211 _ _ t171 false _ ?side1 ?side2 ?side3 ?side4 A144.out).mono ?_); (case side1 => exact (Kd.R_reads' (rF1 HO213.out BK215.out)).2.2); (case side2 => exact (Kd.R_reads' HO213.out).2.1); (case side3 => exact (Kd.R_reads' (rF1 HO_176000.out BK215.out)).2.2); (case side4 => exact (Kd.R_reads' HO_176000.out).2.1); rintro e w165 ⟨rfl, hb⟩; refine ⟨_, rfl, ?_⟩; have _ := aM (Kd.R_below (rF1 HO_176000.out BK215.out) hb); have _ := aM (Kd.R_below (rF1 HO_180000.out BK215.out) hb); have _ := aM (Kd.R_below (rF1 HO_188000.out BK215.out) hb); have _ := aM (Kd.R_below (rF1 HO207.out BK215.out) hb); have _ := aM (Kd.R_below (rF1 HO210.out BK215.out) hb); have _ := aM (Kd.R_below (rF1 HO213.out BK215.out) hb); have _ := aM (blk_below (kF1 BK163.out NB163_215.out) hb); have _ := aM (blk_below (kF1 BK175.out NB175_215.out) hb); have _ := aM (blk_below (kF1 BK179.out NB179_215.out) hb); have _ := aM (blk_below (kF1 BK187.out NB187_215.out) hb); have _ := aM (blk_below (kP1 BK215.out) hb); have _ := aM (below_step (bS HB.out) hb); clear HO_176000 HO_180000 HO_188000 HO207 HO210 HO213 BK163 BK175 BK179 BK187 BK215 HB; rename_i HO_176000 HO_180000 HO_188000 HO207 HO210 HO213 BK163 BK175 BK179 BK187 BK215 HB; (try clear hb)))
               go_meet
               case rel => exact ⟨_, (true), (by first | rfl | (simp; done) | (simp [*]; done)), H', ⟨by have := HJ15.out; have := HJ73.out; first | omega | exact Nat.le_refl _⟩, ⟨by (try simp only [hl180000_73]); (with_reducible repeat (first | apply Kd.R_alloc | apply Kd.R_drewN | apply Kd.R_drew)); exact Kd.R_mono HO_176000.out (fun _ hk => by first | exact ⟨hk.1.1.1.1, ⟨hk.1.1.1.2, hk.2⟩⟩ | (simp only [ne_eq] at hk ⊢; simp [hk]))⟩, ⟨by (try simp only [hl180000_73]); (with_reducible repeat (first | apply Kd.R_alloc | apply Kd.R_drewN | apply Kd.R_drew)); exact Kd.R_mono HO_180000.out (fun _ hk => by first | exact ⟨hk.1.1.1.1, ⟨hk.1.1.1.2, hk.2⟩⟩ | (simp only [ne_eq] at hk ⊢; simp [hk]))⟩, ⟨by (try simp only [hl180000_73]); (with_reducible repeat (first | apply Kd.R_alloc | apply Kd.R_drewN | apply Kd.R_drew)); exact Kd.R_mono HO_188000.out (fun _ hk => by first | exact ⟨hk.1.1.1.1, ⟨hk.1.1.1.2, hk.2⟩⟩ | (simp only [ne_eq] at hk ⊢; simp [hk]))⟩, ⟨by (try simp only [hl180000_73]); (with_reducible repeat (first | apply Kd.R_alloc | apply Kd.R_drewN | apply Kd.R_drew)); exact Kd.R_mono HO213.out (fun _ hk => by first | exact ⟨hk.1.1.1.1.2, ⟨hk.1.1.1.2, hk.1.1.2⟩⟩ | (simp only [ne_eq] at hk ⊢; simp [hk]))⟩, ⟨by (try simp only [hl180000_73]); (with_reducible repeat (first | refine blk_drewN ?_ _ | refine blk_drew ?_ | refine blk_alloc ?_ _)); exact BK163.out⟩, ⟨by (try simp only [hl180000_73]); (with_reducible repeat (first | refine blk_drewN ?_ _ | refine blk_drew ?_ | refine blk_alloc ?_ _)); exact BK175.out⟩, ⟨by (try simp only [hl180000_73]); (with_reducible repeat (first | refine blk_drewN ?_ _ | refine blk_drew ?_ | refine blk_alloc ?_ _)); exact BK179.out⟩, ⟨by (try simp only [hl180000_73]); (with_reducible repeat (first | refine blk_drewN ?_ _ | refine blk_drew ?_ | refine blk_alloc ?_ _)); exact BK187.out⟩, ⟨by (try simp only [hl180000_73]); (with_reducible repeat (first | refine blk_drewN ?_ _ | refine blk_drew ?_ | refine blk_alloc ?_ _)); exact BK215.out⟩, ⟨bS HB.out⟩⟩
             case rest =>
              clear HC121
              try clear c1
              try clear c2
              try clear p2
              try clear c3
              try clear c3b0
              try clear c3b1
              try clear c4
              try clear c5
              try clear c6
              try clear c6b0
              try clear c7
              try clear c8
              try clear c9
              try clear c10
              try clear c15
              try clear c17
              try clear c19
              try clear c21
              try clear c28
              try clear c34
              try clear c35
              try clear c38
              try clear c43
              try clear c44
              try clear c45
              try clear c48
              try clear c49
              try clear c50
              try clear c51
              try clear c52
              try clear c53
              try clear c54
              try clear c57
              try clear c58
              try clear c59
              try clear c61
              try clear c62
              try clear c65
              try clear c68
              try clear c71
              try clear c81
              try clear c82
              try clear c83
              try clear c87
              try clear c87b0
              try clear c89
              try clear c90
              try clear c91
              try clear c92
              try clear c94
              try clear c95
              try clear c98
              try clear c99
              try clear c100
              try clear c102
              try clear c103
              try clear c106
              try clear c109
              try clear c109b0
              try clear c117
              try clear c117b0
              try clear c117b1
              try clear hcz101_0
              try clear hcz104_0
              try clear hcz113_0
              try clear hcz115_0
              try clear hcz125_0
              try clear hcz127_0
              try clear hcz131_0
              try clear hcz143_0
              try clear hcz18_0
              try clear hcz20_0
              try clear hcz29_0
              try clear hcz30_0
              try clear hcz36_0
              try clear hcz38_0
              try clear hcz46_0
              try clear hcz52_0
              try clear hcz55_0
              try clear hcz60_0
              try clear hcz63_0
              try clear hcz84_0
              try clear hcz8_0
              try clear hcz93_0
              try clear hcz96_0
              try clear hfz101_0
              try clear hfz104_0
              try clear hfz113_0
              try clear hfz115_0
              try clear hfz125_0
              try clear hfz127_0
              try clear hfz131_0
              try clear hfz143_0
              try clear hfz18_0
              try clear hfz20_0
              try clear hfz29_0
              try clear hfz30_0
              try clear hfz36_0
              try clear hfz38_0
              try clear hfz46_0
              try clear hfz52_0
              try clear hfz55_0
              try clear hfz60_0
              try clear hfz63_0
              try clear hfz84_0
              try clear hfz8_0
              try clear hfz93_0
              try clear hfz96_0
              try clear p2
              obtain ⟨kq, x108_120, rfl, HA, HJ120, HO_176000, HO_180000, HO_188000, HO_216000, BK163, BK175, BK179, BK187, BK215, HB⟩ := hcut
              have hl188000_120 := (Kd.R_reads' HO_188000.out).1
              rw [hl188000_120] at HO_188000
              (try simp only [hl188000_120])
              (try simp only [hl188000_120] at BK163)
              (try simp only [hl188000_120] at BK175)
              (try simp only [hl188000_120] at BK179)
              (try simp only [hl188000_120] at BK187)
              (try simp only [hl188000_120] at BK215)
              (try simp only [hl188000_120] at HO_176000)
              (try simp only [hl188000_120] at HO_180000)
              (try simp only [hl188000_120] at HO_216000)
              cases kq with
              | zero => exact absurd HA.out (by simp [laws_FnExactRingPut.j2])
              | succ kj120 =>
               have H := HA.out
               clear HA
               simp only [laws_FnExactRingPut.j2] at H
               by_cases c166 : x108_120 = true
               ·subst c166
                have H1 : (some false) = some r := by rw [if_pos rfl] at H; exact H
                clear H
                have H := H1
                clear H1
                obtain rfl := Option.some.inj H
                go_wp2
                go_ret
                exact ⟨by first | rfl | (simp [errW_none, errW_some] <;> rfl) | (simp [*, errW_none, errW_some] <;> rfl), bS HB.out⟩
               ·replace c166 := Bool.eq_false_iff.mpr c166
                subst c166
                have H1 : ((laws_heldRing.f kj120 t203 1).bind fun t217 => (if t217 < 0 then (some false) else (if t217 = t202 then (some true) else (some false)))) = some r := by rw [if_neg (show ¬ (false = true) by decide)] at H; exact H
                clear H
                have H := H1
                clear H1
                replace H := Option.bind_eq_some_iff.mp H
                obtain ⟨t217, A1670, H⟩ := H
                replace H : (if t217 < 0 then (some false) else (if t217 = t202 then (some true) else (some false))) = some r := H
                have A167 := aM A1670
                clear A1670
                by_cases c168 : t217 < 0
                ·rw [if_pos c168] at H
                 have c168b0 : decide (t217 < 0) = true := decide_eq_true c168
                 clear c168
                 obtain rfl := Option.some.inj H
                 have hnb169 := NB187_163.out
                 have hnc169 := NB163_187.out
                 have hnb170 := NB187_175.out
                 have hnc170 := NB175_187.out
                 have hnb171 := NB187_179.out
                 have hnc171 := NB179_187.out
                 have hnb172 := NB187_215.out
                 have hnc172 := NB215_187.out
                 obtain ⟨hcz173_0, hfz173_0⟩ := bk1 BK187.out
                 go_wp2_with (first | ((with_reducible refine gate_callee (f := 53) rfl ?_); refine gL (some 111) rfl rfl Try.func53 (by kernel_rfl) rfl #[.agg #[.slice Ao42 t203.length co42], .int .i64 1] rfl ?_; (with_reducible refine (laws_heldRing.calls kj120 _ _ t203 1 t217 _ ?side1 ?side2 A167.out).mono ?_); (case side1 => exact cR HO_188000.out); (case side2 => exact (Kd.R_reads' HO_188000.out).2.1); rintro e w174 ⟨rfl, hb⟩; refine ⟨_, rfl, ?_⟩; have _ := aM (rB HO_176000.out hb); have _ := aM (rB HO_180000.out hb); have _ := aM (rB HO_188000.out hb); have _ := aM (rB HO_216000.out hb); have _ := aM (kB BK163.out hb); have _ := aM (kB BK175.out hb); have _ := aM (kB BK179.out hb); have _ := aM (kB BK187.out hb); have _ := aM (kB BK215.out hb); have _ := aM (below_step (bS HB.out) hb); clear HO_176000 HO_180000 HO_188000 HO_216000 BK163 BK175 BK179 BK187 BK215 HB; rename_i HO_176000 HO_180000 HO_188000 HO_216000 BK163 BK175 BK179 BK187 BK215 HB; (try clear hb)))
                 go_ret
                 exact ⟨by first | rfl | (simp [errW_none, errW_some] <;> rfl) | (simp [*, errW_none, errW_some] <;> rfl), bS HB.out⟩
                ·rw [if_neg c168] at H
                 have c168b0 : decide (t217 < 0) = false := decide_eq_false c168
                 clear c168
                 by_cases c175 : t217 = t202
                 ·rw [if_pos c175] at H
                  have c175b0 : (t217 == t202) = true := beq_iff_eq.mpr c175
                  have c175b1 : (t217 != t202) = false := bne_eq_false_iff_eq.mpr c175
                  clear c175
                  obtain rfl := Option.some.inj H
                  have hnb176 := NB187_163.out
                  have hnc176 := NB163_187.out
                  have hnb177 := NB187_175.out
                  have hnc177 := NB175_187.out
                  have hnb178 := NB187_179.out
                  have hnc178 := NB179_187.out
                  have hnb179 := NB187_215.out
                  have hnc179 := NB215_187.out
                  obtain ⟨hcz180_0, hfz180_0⟩ := bk1 BK187.out
                  go_wp2_with (first | ((with_reducible refine gate_callee (f := 53) rfl ?_); refine gL (some 111) rfl rfl Try.func53 (by kernel_rfl) rfl #[.agg #[.slice Ao42 t203.length co42], .int .i64 1] rfl ?_; (with_reducible refine (laws_heldRing.calls kj120 _ _ t203 1 t217 _ ?side1 ?side2 A167.out).mono ?_); (case side1 => exact cR HO_188000.out); (case side2 => exact (Kd.R_reads' HO_188000.out).2.1); rintro e w181 ⟨rfl, hb⟩; refine ⟨_, rfl, ?_⟩; have _ := aM (rB HO_176000.out hb); have _ := aM (rB HO_180000.out hb); have _ := aM (rB HO_188000.out hb); have _ := aM (rB HO_216000.out hb); have _ := aM (kB BK163.out hb); have _ := aM (kB BK175.out hb); have _ := aM (kB BK179.out hb); have _ := aM (kB BK187.out hb); have _ := aM (kB BK215.out hb); have _ := aM (below_step (bS HB.out) hb); clear HO_176000 HO_180000 HO_188000 HO_216000 BK163 BK175 BK179 BK187 BK215 HB; rename_i HO_176000 HO_180000 HO_188000 HO_216000 BK163 BK175 BK179 BK187 BK215 HB; (try clear hb)))
                  go_ret
                  exact ⟨by first | rfl | (simp [errW_none, errW_some] <;> rfl) | (simp [*, errW_none, errW_some] <;> rfl), bS HB.out⟩
                 ·rw [if_neg c175] at H
                  have c175b0 : (t217 == t202) = false := beq_eq_false_iff_ne.mpr c175
                  have c175b1 : (t217 != t202) = true := bne_iff_ne.mpr c175
                  obtain rfl := Option.some.inj H
                  have hnb182 := NB187_163.out
                  have hnc182 := NB163_187.out
                  have hnb183 := NB187_175.out
                  have hnc183 := NB175_187.out
                  have hnb184 := NB187_179.out
                  have hnc184 := NB179_187.out
                  have hnb185 := NB187_215.out
                  have hnc185 := NB215_187.out
                  obtain ⟨hcz186_0, hfz186_0⟩ := bk1 BK187.out
                  go_wp2_with (first | ((with_reducible refine gate_callee (f := 53) rfl ?_); refine gL (some 111) rfl rfl Try.func53 (by kernel_rfl) rfl #[.agg #[.slice Ao42 t203.length co42], .int .i64 1] rfl ?_; (with_reducible refine (laws_heldRing.calls kj120 _ _ t203 1 t217 _ ?side1 ?side2 A167.out).mono ?_); (case side1 => exact cR HO_188000.out); (case side2 => exact (Kd.R_reads' HO_188000.out).2.1); rintro e w187 ⟨rfl, hb⟩; refine ⟨_, rfl, ?_⟩; have _ := aM (rB HO_176000.out hb); have _ := aM (rB HO_180000.out hb); have _ := aM (rB HO_188000.out hb); have _ := aM (rB HO_216000.out hb); have _ := aM (kB BK163.out hb); have _ := aM (kB BK175.out hb); have _ := aM (kB BK179.out hb); have _ := aM (kB BK187.out hb); have _ := aM (kB BK215.out hb); have _ := aM (below_step (bS HB.out) hb); clear HO_176000 HO_180000 HO_188000 HO_216000 BK163 BK175 BK179 BK187 BK215 HB; rename_i HO_176000 HO_180000 HO_188000 HO_216000 BK163 BK175 BK179 BK187 BK215 HB; (try clear hb)))
                  go_ret
                  exact ⟨by first | rfl | (simp [errW_none, errW_some] <;> rfl) | (simp [*, errW_none, errW_some] <;> rfl), bS HB.out⟩
            ·rw [if_neg c117] at H
             have c117b0 : (t204 == t202) = false := beq_eq_false_iff_ne.mpr c117
             have c117b1 : (t204 != t202) = true := bne_iff_ne.mpr c117
             obtain rfl := Option.some.inj H
             have hnb188 := NB187_163.out
             have hnc188 := NB163_187.out
             have hnb189 := NB187_175.out
             have hnc189 := NB175_187.out
             have hnb190 := NB187_179.out
             have hnc190 := NB179_187.out
             obtain ⟨hcz191_0, hfz191_0⟩ := bk1 BK187.out
             go_wp2_with (first | ((with_reducible refine gate_callee (f := 52) rfl ?_); refine gL (some 83) rfl rfl Try.func52 (by kernel_rfl) rfl #[.agg #[.slice Ao42 t183.length co42], .int .i64 1] rfl ?_; (with_reducible refine (laws_markRing.calls kj73 (fun k_ => some k_ = (.slice Ao42 t183.length co42 : Value).ownBlock) (.slice Ao42 t183.length co42) t183 1 t202 t203 w _ ?side1 ?side2 A107.out).mono ?_); (case side1 => repeat (first | (with_reducible first | exact HB.out | apply below_alloc | apply pw_below_drewN | apply below_drew1 | refine below_set ?_ GE163.out | refine below_set ?_ GE175.out | refine below_set ?_ GE179.out | refine below_set ?_ GE187.out) | exact HB.out)); (case side2 => exact Kd.R_tight rfl HO_188000.out); rintro e w192 ⟨rfl, hy0, hb, hkp⟩; refine ⟨_, rfl, ?_⟩; have _ := aM (rN (ok' := fun k_ => some k_ ≠ (.slice Ao33 t198.length co33 : Value).ownBlock ∧ some k_ ≠ (.slice Ao42 t183.length co42 : Value).ownBlock) (Kd.R_keptB (HO_176000.out) hkp (fun k_ hk_ hs_ => (hk_.2) hs_))); have _ := aM (rN (ok' := fun k_ => some k_ ≠ (.slice Ao27 t171.length co27 : Value).ownBlock ∧ some k_ ≠ (.slice Ao42 t183.length co42 : Value).ownBlock) (Kd.R_keptB (HO_180000.out) hkp (fun k_ hk_ hs_ => (hk_.2) hs_))); have _ := aM (Kd.R_reok rfl hy0 (fun k_ e_ => HO_188000.out.1 k_ e_)); have _ := aM (blk_kept (kA BK163.out) hkp (fun hs_ => (fun e_ => (Kd.R_ne HO_188000.out BK163.out (by decide)) e_) hs_)); have _ := aM (blk_kept (kA BK175.out) hkp (fun hs_ => (fun e_ => (Kd.R_ne HO_188000.out BK175.out (by decide)) e_) hs_)); have _ := aM (blk_kept (kA BK179.out) hkp (fun hs_ => (fun e_ => (Kd.R_ne HO_188000.out BK179.out (by decide)) e_) hs_)); have _ := aM (blk_kept (kA BK187.out) hkp (fun hs_ => (fun e_ => (Kd.R_ne HO_188000.out BK187.out (by decide)) e_) hs_)); have _ := aM (hb); clear HO_176000 HO_180000 HO_188000 BK163 BK175 BK179 BK187 HB; rename_i HO_176000 HO_180000 HO_188000 BK163 BK175 BK179 BK187 HB; (try clear hb); (try clear hkp); (try clear hy0); obtain ⟨hcz193_0, hfz193_0⟩ := bk1 BK187.out) | ((with_reducible refine gate_callee (f := 53) rfl ?_); refine goesL_ (some 86) rfl rfl Try.func53 (by kernel_rfl) rfl #[.agg #[.slice Ao42 t203.length co42], .int .i64 1] rfl (by (try simp only [List.map_toArray, List.map_cons, List.map_nil]); first | done | (rw [show t203.length = t183.length from (Kd.R_reads' HO_188000.out).1.symm] <;> rfl) | rfl | (simp only [List.length_drop, List.length_take]; rfl)) ?_; (with_reducible refine (laws_heldRing.calls kj73 _ _ t203 1 t204 _ ?side1 ?side2 A108.out).mono ?_); (case side1 => exact cR HO_188000.out); (case side2 => rw [show t203.length = t183.length from (Kd.R_reads' HO_188000.out).1.symm]; exact (Kd.R_reads' HO_188000.out).2.1); rintro e w194 ⟨rfl, hb⟩; refine ⟨_, rfl, ?_⟩; have _ := aM (rB HO_176000.out hb); have _ := aM (rB HO_180000.out hb); have _ := aM (rB HO_188000.out hb); have _ := aM (kB BK163.out hb); have _ := aM (kB BK175.out hb); have _ := aM (kB BK179.out hb); have _ := aM (kB BK187.out hb); have _ := aM (below_step (bS HB.out) hb); clear HO_176000 HO_180000 HO_188000 BK163 BK175 BK179 BK187 HB; rename_i HO_176000 HO_180000 HO_188000 BK163 BK175 BK179 BK187 HB; (try clear hb)))
             go_ret
             exact ⟨by first | rfl | (simp [errW_none, errW_some] <;> rfl) | (simp [*, errW_none, errW_some] <;> rfl), bS HB.out⟩
       ·replace c71 := Bool.eq_false_iff.mpr c71
        subst c71
        have H1 : (some false) = some r := by rw [if_neg (show ¬ (false = true) by decide)] at H; exact H
        clear H
        have H := H1
        clear H1
        obtain rfl := Option.some.inj H
        try go_wp2
        have n0_ := aM (Kd.R_drew HO_9.out)
        have n1_ := aM (Kd.R_drew HO_176000.out)
        have n2_ := aM (Kd.R_drew HO_180000.out)
        have n3_ := aM (Kd.R_drew HO_188000.out)
        have n4_ := aM (blk_drew BK163.out)
        have n5_ := aM (blk_drew BK175.out)
        have n6_ := aM (blk_drew BK179.out)
        have n7_ := aM (blk_drew BK187.out)
        have n8_ := aM (below_drew1 HB.out)
        clear HO_9
        clear HO_176000
        clear HO_180000
        clear HO_188000
        clear BK163
        clear BK175
        clear BK179
        clear BK187
        clear HB
        have HO_9 := n0_
        have HO_176000 := n1_
        have HO_180000 := n2_
        have HO_188000 := n3_
        have BK163 := n4_
        have BK175 := n5_
        have BK179 := n6_
        have BK187 := n7_
        have HB := n8_
        clear n0_ n1_ n2_ n3_ n4_ n5_ n6_ n7_ n8_
        refine start_ (n := 5) (S := fun w' => w'.cell? ⟨gb179, 0, none⟩ = some (.slice Ao33 t176.length co33) ∧ w'.cell? ⟨gb163, 0, none⟩ = some (.slice A0_0 l0_0.length c0_0)) (ds := []) #[false, false, false, false, false] (by kernel_rfl) rfl rfl ⟨(blk_cell BK179.out 0).trans rfl, (blk_cell BK163.out 0).trans rfl⟩ (fun hHeld => ?_)
        generalize wc.drew = w195 at HO_9 HO_176000 HO_180000 HO_188000 BK163 BK175 BK179 BK187 HB hHeld ⊢
        refine take_ (i := 0) (N := some 52) (v := ?_) (a' := ?_) #[true, false, false, false, false] rfl rfl (by kernel_rfl) (fun _ _ _ h => h) (Or.inl ⟨by rfl, ?_⟩) hHeld ?_ ?_
        rotate_left
        ·rintro w' ⟨s0, s1⟩
         go_simp
         with_reducible rfl
        rotate_left
        ·simp only [Act.put, List.setIfInBounds_toArray, List.set_cons_zero, List.set_cons_succ, i64_w, i32_w]
         rfl
        refine take_ (i := 1) (N := some 53) (v := ?_) (a' := ?_) #[true, true, false, false, false] rfl rfl (by kernel_rfl) (fun _ _ _ h => h) (Or.inl ⟨by rfl, ?_⟩) hHeld ?_ ?_
        rotate_left
        ·rintro w' ⟨s0, s1⟩
         go_simp
         with_reducible rfl
        rotate_left
        ·simp only [Act.put, List.setIfInBounds_toArray, List.set_cons_zero, List.set_cons_succ, i64_w, i32_w]
         rfl
        refine one_ (i := 2) (N := some 54) #[true, true, true, false, false] rfl rfl (by kernel_rfl) (by decide) (fun K hK => ?_)
        refine goes_ Try.func19 (by kernel_rfl) rfl #[.agg #[.slice A0_0 l0_0.length c0_0]] (by rfl) rfl rfl (by (try simp only [List.map_toArray, List.map_cons, List.map_nil]); first | done | rfl | (simp only [List.length_drop, List.length_take]; rfl)) ?_
        with_reducible refine (laws_toRing.calls kj15 _ _ l0_0 t189 _ ?side1 ?side2 A66.out).mono ?_
        (case side1 => exact cB HR0_0.out HB.out)
        (case side2 => exact HC0_0.out)
        rintro e w196 ⟨v190, rfl, ho0, hb⟩
        refine ⟨_, rfl, ?_⟩
        have n0_ := aM (Kd.R_elder' (rA HO_9.out) (Kd.R_base ho0) hb)
        have n1_ := aM (Kd.R_elder' (rA HO_176000.out) (Kd.R_base ho0) hb)
        have n2_ := aM (Kd.R_elder' (rA HO_180000.out) (Kd.R_base ho0) hb)
        have n3_ := aM (Kd.R_elder' (rA HO_188000.out) (Kd.R_base ho0) hb)
        have n4_ := aM (Kd.R_lower (Kd.R_new' (Kd.R_new' (Kd.R_new' (Kd.R_new' ho0 (Kd.R_lt (rA HO_9.out))) (Kd.R_lt (rA HO_176000.out))) (Kd.R_lt (rA HO_180000.out))) (Kd.R_lt (rA HO_188000.out))) (below_size (bS HB.out)))
        have n5_ := aM (kB BK163.out hb)
        have n6_ := aM (kB BK175.out hb)
        have n7_ := aM (kB BK179.out hb)
        have n8_ := aM (kB BK187.out hb)
        have n9_ := aM (below_step (bS HB.out) hb)
        clear HO_9
        clear HO_176000
        clear HO_180000
        clear HO_188000
        clear BK163
        clear BK175
        clear BK179
        clear BK187
        clear HB
        have HO_9 := n0_
        have HO_176000 := n1_
        have HO_180000 := n2_
        have HO_188000 := n3_
        have HO191 := n4_
        have BK163 := n5_
        have BK175 := n6_
        have BK179 := n7_
        have BK187 := n8_
        have HB := n9_
        clear n0_ n1_ n2_ n3_ n4_ n5_ n6_ n7_ n8_ n9_
        (try clear hb)
        (try clear hb2)
        (try clear hk)
        (try clear hi)
        (try clear ho0)
        obtain ⟨Ao197, co197, eo197⟩ := Kd.R_slice HO191.out
        (first | subst eo197 | (injection eo197 with f1_ f2_ f3_; have f4_ := f1_.symm; have f5_ := f3_.symm; clear f1_ f2_ f3_; subst f4_; subst f5_))
        refine hK.out _ _ ⟨(blk_cell BK179.out 0).trans rfl, (blk_cell BK163.out 0).trans rfl⟩ (fun hHeld => ?_)
        clear hK K
        refine norm_ (a' := ?_) ?_ ?_
        rotate_left
        ·show Act.put _ (some 54) _ = _
         simp only [Act.put, List.setIfInBounds_toArray, List.set_cons_zero, List.set_cons_succ, i64_w, i32_w]
         rfl
        refine one_ (i := 3) (N := some 55) #[true, true, true, true, false] rfl rfl (by kernel_rfl) (by decide) (fun K hK => ?_)
        refine goes_ Try.func21 (by kernel_rfl) rfl #[.agg #[.slice Ao33 t176.length co33], .agg #[.slice Ao197 t189.length co197]] (by rfl) rfl rfl (by (try simp only [List.map_toArray, List.map_cons, List.map_nil]); first | done | rfl | (simp only [List.length_drop, List.length_take]; rfl)) ?_
        with_reducible refine (laws_eqRing.calls kj15 _ _ t176 _ _ t189 true _ ?side1 ?side2 ?side3 ?side4 A67.out).mono ?_
        (case side1 => exact cR HO_180000.out)
        (case side2 => exact (Kd.R_reads' HO_180000.out).2.1)
        (case side3 => exact cR HO191.out)
        (case side4 => exact (Kd.R_reads' HO191.out).2.1)
        rintro e w198 ⟨rfl, hb⟩
        refine ⟨_, rfl, ?_⟩
        have n0_ := aM (rB HO_9.out hb)
        have n1_ := aM (rB HO_176000.out hb)
        have n2_ := aM (rB HO_180000.out hb)
        have n3_ := aM (rB HO_188000.out hb)
        have n4_ := aM (rB HO191.out hb)
        have n5_ := aM (kB BK163.out hb)
        have n6_ := aM (kB BK175.out hb)
        have n7_ := aM (kB BK179.out hb)
        have n8_ := aM (kB BK187.out hb)
        have n9_ := aM (below_step (bS HB.out) hb)
        clear HO_9
        clear HO_176000
        clear HO_180000
        clear HO_188000
        clear HO191
        clear BK163
        clear BK175
        clear BK179
        clear BK187
        clear HB
        have HO_9 := n0_
        have HO_176000 := n1_
        have HO_180000 := n2_
        have HO_188000 := n3_
        have HO191 := n4_
        have BK163 := n5_
        have BK175 := n6_
        have BK179 := n7_
        have BK187 := n8_
        have HB := n9_
        clear n0_ n1_ n2_ n3_ n4_ n5_ n6_ n7_ n8_ n9_
        (try clear hb)
        (try clear hb2)
        (try clear hk)
        (try clear hi)
        refine hK.out _ _ ⟨(blk_cell BK179.out 0).trans rfl, (blk_cell BK163.out 0).trans rfl⟩ (fun hHeld => ?_)
        clear hK K
        refine norm_ (a' := ?_) ?_ ?_
        rotate_left
        ·show Act.put _ (some 55) _ = _
         simp only [Act.put, List.setIfInBounds_toArray, List.set_cons_zero, List.set_cons_succ, i64_w, i32_w]
         rfl
        refine pure_ (i := 4) (N := some 56) (v := ?_) (a' := ?_) #[true, true, true, true, true] rfl rfl (by kernel_rfl) (fun _ _ _ h => h) (Or.inl ⟨by rfl, ?_⟩) ?_ ?_
        rotate_left
        ·intro w'
         go_simp
         with_reducible rfl
        rotate_left
        ·simp only [Act.put, List.setIfInBounds_toArray, List.set_cons_zero, List.set_cons_succ, i64_w, i32_w]
         rfl
        refine done_ (by kernel_rfl) ?_
        try go_wp2_with (first | ((with_reducible refine gate_callee (f := 48) rfl ?_); refine gL (some 59) rfl rfl Try.func48 (by kernel_rfl) rfl #[.slice A1 l1.length c1] rfl ?_; (with_reducible refine (laws_toByteS.calls kj15 _ _ l1 t193 _ ?side1 ?side2 A69.out).mono ?_); (case side1 => exact cB HR1.out HB.out); (case side2 => exact HC1.out); rintro e w199 ⟨v194, rfl, ho0, hb⟩; refine ⟨_, rfl, ?_⟩; have _ := aM (Kd.R_elder' (rA HO_9.out) (Kd.R_base ho0) hb); have _ := aM (Kd.R_elder' (rA HO_176000.out) (Kd.R_base ho0) hb); have _ := aM (Kd.R_elder' (rA HO_180000.out) (Kd.R_base ho0) hb); have _ := aM (Kd.R_elder' (rA HO_188000.out) (Kd.R_base ho0) hb); have _ := aM (Kd.R_elder' (rA HO191.out) (Kd.R_base ho0) hb); have _ := aM (Kd.R_lower (Kd.R_new' (Kd.R_new' (Kd.R_new' (Kd.R_new' (Kd.R_new' ho0 (Kd.R_lt (rA HO_9.out))) (Kd.R_lt (rA HO_176000.out))) (Kd.R_lt (rA HO_180000.out))) (Kd.R_lt (rA HO_188000.out))) (Kd.R_lt (rA HO191.out))) (below_size (bS HB.out))); have _ := aM (kB BK163.out hb); have _ := aM (kB BK175.out hb); have _ := aM (kB BK179.out hb); have _ := aM (kB BK187.out hb); have _ := aM (below_step (bS HB.out) hb); clear HO_9 HO_176000 HO_180000 HO_188000 HO191 BK163 BK175 BK179 BK187 HB; rename_i HO_9 HO_176000 HO_180000 HO_188000 HO191 HO195 BK163 BK175 BK179 BK187 HB; (try clear hb); (try clear ho0); obtain ⟨Ao200, co200, eo200⟩ := Kd.R_slice HO195.out; subst eo200) | ((with_reducible refine gate_callee (f := 35) rfl ?_); refine gL (some 60) rfl rfl Try.func35 (by kernel_rfl) rfl #[.slice Ao39 t180.length co39, .slice Ao200 t193.length co200] rfl ?_; (with_reducible refine (laws_eqByteS.calls kj15 _ _ t180 _ _ t193 false _ ?side1 ?side2 ?side3 ?side4 A70.out).mono ?_); (case side1 => exact cR HO_9.out); (case side2 => exact (Kd.R_reads' HO_9.out).2.1); (case side3 => exact cR HO195.out); (case side4 => exact (Kd.R_reads' HO195.out).2.1); rintro e w' ⟨rfl, ⟨nd, rfl⟩⟩; refine ⟨_, rfl, ?_⟩))
        go_ret
        exact ⟨by first | rfl | (simp [errW_none, errW_some] <;> rfl) | (simp [*, errW_none, errW_some] <;> rfl), bS HB.out⟩
      ·replace c68 := Bool.eq_false_iff.mpr c68
       subst c68
       have H1 : (some false) = some r := by rw [if_neg (show ¬ (false = true) by decide)] at H; exact H
       clear H
       have H := H1
       clear H1
       obtain rfl := Option.some.inj H
       try go_wp2
       have n0_ := aM (Kd.R_drew HO_9.out)
       have n1_ := aM (Kd.R_drew HO_176000.out)
       have n2_ := aM (Kd.R_drew HO_180000.out)
       have n3_ := aM (Kd.R_drew HO_188000.out)
       have n4_ := aM (blk_drew BK163.out)
       have n5_ := aM (blk_drew BK175.out)
       have n6_ := aM (blk_drew BK179.out)
       have n7_ := aM (blk_drew BK187.out)
       have n8_ := aM (below_drew1 HB.out)
       clear HO_9
       clear HO_176000
       clear HO_180000
       clear HO_188000
       clear BK163
       clear BK175
       clear BK179
       clear BK187
       clear HB
       have HO_9 := n0_
       have HO_176000 := n1_
       have HO_180000 := n2_
       have HO_188000 := n3_
       have BK163 := n4_
       have BK175 := n5_
       have BK179 := n6_
       have BK187 := n7_
       have HB := n8_
       clear n0_ n1_ n2_ n3_ n4_ n5_ n6_ n7_ n8_
       refine start_ (n := 5) (S := fun w' => w'.cell? ⟨gb179, 0, none⟩ = some (.slice Ao33 t176.length co33) ∧ w'.cell? ⟨gb163, 0, none⟩ = some (.slice A0_0 l0_0.length c0_0)) (ds := []) #[false, false, false, false, false] (by kernel_rfl) rfl rfl ⟨(blk_cell BK179.out 0).trans rfl, (blk_cell BK163.out 0).trans rfl⟩ (fun hHeld => ?_)
       generalize wc.drew = w201 at HO_9 HO_176000 HO_180000 HO_188000 BK163 BK175 BK179 BK187 HB hHeld ⊢
       refine take_ (i := 0) (N := some 52) (v := ?_) (a' := ?_) #[true, false, false, false, false] rfl rfl (by kernel_rfl) (fun _ _ _ h => h) (Or.inl ⟨by rfl, ?_⟩) hHeld ?_ ?_
       rotate_left
       ·rintro w' ⟨s0, s1⟩
        go_simp
        with_reducible rfl
       rotate_left
       ·simp only [Act.put, List.setIfInBounds_toArray, List.set_cons_zero, List.set_cons_succ, i64_w, i32_w]
        rfl
       refine take_ (i := 1) (N := some 53) (v := ?_) (a' := ?_) #[true, true, false, false, false] rfl rfl (by kernel_rfl) (fun _ _ _ h => h) (Or.inl ⟨by rfl, ?_⟩) hHeld ?_ ?_
       rotate_left
       ·rintro w' ⟨s0, s1⟩
        go_simp
        with_reducible rfl
       rotate_left
       ·simp only [Act.put, List.setIfInBounds_toArray, List.set_cons_zero, List.set_cons_succ, i64_w, i32_w]
        rfl
       refine one_ (i := 2) (N := some 54) #[true, true, true, false, false] rfl rfl (by kernel_rfl) (by decide) (fun K hK => ?_)
       refine goes_ Try.func19 (by kernel_rfl) rfl #[.agg #[.slice A0_0 l0_0.length c0_0]] (by rfl) rfl rfl (by (try simp only [List.map_toArray, List.map_cons, List.map_nil]); first | done | rfl | (simp only [List.length_drop, List.length_take]; rfl)) ?_
       with_reducible refine (laws_toRing.calls kj15 _ _ l0_0 t189 _ ?side1 ?side2 A66.out).mono ?_
       (case side1 => exact cB HR0_0.out HB.out)
       (case side2 => exact HC0_0.out)
       rintro e w202 ⟨v190, rfl, ho0, hb⟩
       refine ⟨_, rfl, ?_⟩
       have n0_ := aM (Kd.R_elder' (rA HO_9.out) (Kd.R_base ho0) hb)
       have n1_ := aM (Kd.R_elder' (rA HO_176000.out) (Kd.R_base ho0) hb)
       have n2_ := aM (Kd.R_elder' (rA HO_180000.out) (Kd.R_base ho0) hb)
       have n3_ := aM (Kd.R_elder' (rA HO_188000.out) (Kd.R_base ho0) hb)
       have n4_ := aM (Kd.R_lower (Kd.R_new' (Kd.R_new' (Kd.R_new' (Kd.R_new' ho0 (Kd.R_lt (rA HO_9.out))) (Kd.R_lt (rA HO_176000.out))) (Kd.R_lt (rA HO_180000.out))) (Kd.R_lt (rA HO_188000.out))) (below_size (bS HB.out)))
       have n5_ := aM (kB BK163.out hb)
       have n6_ := aM (kB BK175.out hb)
       have n7_ := aM (kB BK179.out hb)
       have n8_ := aM (kB BK187.out hb)
       have n9_ := aM (below_step (bS HB.out) hb)
       clear HO_9
       clear HO_176000
       clear HO_180000
       clear HO_188000
       clear BK163
       clear BK175
       clear BK179
       clear BK187
       clear HB
       have HO_9 := n0_
       have HO_176000 := n1_
       have HO_180000 := n2_
       have HO_188000 := n3_
       have HO191 := n4_
       have BK163 := n5_
       have BK175 := n6_
       have BK179 := n7_
       have BK187 := n8_
       have HB := n9_
       clear n0_ n1_ n2_ n3_ n4_ n5_ n6_ n7_ n8_ n9_
       (try clear hb)
       (try clear hb2)
       (try clear hk)
       (try clear hi)
       (try clear ho0)
       obtain ⟨Ao203, co203, eo203⟩ := Kd.R_slice HO191.out
       (first | subst eo203 | (injection eo203 with f1_ f2_ f3_; have f4_ := f1_.symm; have f5_ := f3_.symm; clear f1_ f2_ f3_; subst f4_; subst f5_))
       refine hK.out _ _ ⟨(blk_cell BK179.out 0).trans rfl, (blk_cell BK163.out 0).trans rfl⟩ (fun hHeld => ?_)
       clear hK K
       refine norm_ (a' := ?_) ?_ ?_
       rotate_left
       ·show Act.put _ (some 54) _ = _
        simp only [Act.put, List.setIfInBounds_toArray, List.set_cons_zero, List.set_cons_succ, i64_w, i32_w]
        rfl
       refine one_ (i := 3) (N := some 55) #[true, true, true, true, false] rfl rfl (by kernel_rfl) (by decide) (fun K hK => ?_)
       refine goes_ Try.func21 (by kernel_rfl) rfl #[.agg #[.slice Ao33 t176.length co33], .agg #[.slice Ao203 t189.length co203]] (by rfl) rfl rfl (by (try simp only [List.map_toArray, List.map_cons, List.map_nil]); first | done | rfl | (simp only [List.length_drop, List.length_take]; rfl)) ?_
       with_reducible refine (laws_eqRing.calls kj15 _ _ t176 _ _ t189 false _ ?side1 ?side2 ?side3 ?side4 A67.out).mono ?_
       (case side1 => exact cR HO_180000.out)
       (case side2 => exact (Kd.R_reads' HO_180000.out).2.1)
       (case side3 => exact cR HO191.out)
       (case side4 => exact (Kd.R_reads' HO191.out).2.1)
       rintro e w204 ⟨rfl, hb⟩
       refine ⟨_, rfl, ?_⟩
       have n0_ := aM (rB HO_9.out hb)
       have n1_ := aM (rB HO_176000.out hb)
       have n2_ := aM (rB HO_180000.out hb)
       have n3_ := aM (rB HO_188000.out hb)
       have n4_ := aM (rB HO191.out hb)
       have n5_ := aM (kB BK163.out hb)
       have n6_ := aM (kB BK175.out hb)
       have n7_ := aM (kB BK179.out hb)
       have n8_ := aM (kB BK187.out hb)
       have n9_ := aM (below_step (bS HB.out) hb)
       clear HO_9
       clear HO_176000
       clear HO_180000
       clear HO_188000
       clear HO191
       clear BK163
       clear BK175
       clear BK179
       clear BK187
       clear HB
       have HO_9 := n0_
       have HO_176000 := n1_
       have HO_180000 := n2_
       have HO_188000 := n3_
       have HO191 := n4_
       have BK163 := n5_
       have BK175 := n6_
       have BK179 := n7_
       have BK187 := n8_
       have HB := n9_
       clear n0_ n1_ n2_ n3_ n4_ n5_ n6_ n7_ n8_ n9_
       (try clear hb)
       (try clear hb2)
       (try clear hk)
       (try clear hi)
       refine hK.out _ _ ⟨(blk_cell BK179.out 0).trans rfl, (blk_cell BK163.out 0).trans rfl⟩ (fun hHeld => ?_)
       clear hK K
       refine norm_ (a' := ?_) ?_ ?_
       rotate_left
       ·show Act.put _ (some 55) _ = _
        simp only [Act.put, List.setIfInBounds_toArray, List.set_cons_zero, List.set_cons_succ, i64_w, i32_w]
        rfl
       refine pure_ (i := 4) (N := some 56) (v := ?_) (a' := ?_) #[true, true, true, true, true] rfl rfl (by kernel_rfl) (fun _ _ _ h => h) (Or.inl ⟨by rfl, ?_⟩) ?_ ?_
       rotate_left
       ·intro w'
        go_simp
        with_reducible rfl
       rotate_left
       ·simp only [Act.put, List.setIfInBounds_toArray, List.set_cons_zero, List.set_cons_succ, i64_w, i32_w]
        rfl
       refine done_ (by kernel_rfl) ?_
       try go_wp2
       go_ret
       exact ⟨by first | rfl | (simp [errW_none, errW_some] <;> rfl) | (simp [*, errW_none, errW_some] <;> rfl), bS HB.out⟩

end Go.Proofs.Ytnikdfcdddlfbaa.PFnExactRingPut
