/- Functions and contracts of the law FnExactSuits: what the Go text computes, step by step. -/
import Derived.Test.YtbdifcgkokajlaaL
import Derived.Test.YtbdifcgkokajlaaQFnExactSuitsx0
import Derived.Test.YtbdifcgkokajlaaQFnExactSuitsx1
import Derived.Test.YtbdifcgkokajlaaQFnExactSuitsx2
import Derived.Test.YtbdifcgkokajlaaQFnExactSuitsx7
import Derived.Test.YtbdifcgkokajlaaQFnExactSuitsx14
namespace Go.Proofs.Ytbdifcgkokajlaa.PFnExactSuits
open Go.Proofs.Ytbdifcgkokajlaa.K Go.Proofs.Ytbdifcgkokajlaa.G Go.RowKit Go.Proofs.YtbdifcgkokajlaaW.PrintWords Go.Proofs.YtbdifcgkokajlaaW.PrintLast Go.Proofs.YtbdifcgkokajlaaW.PrintMore
attribute [local go_sem] max2_int min2_int max_two min_two max_three min_three max_four min_four   -- for this text's walks alone
set_option linter.unusedVariables false
set_option linter.unusedSimpArgs false

/-! ### laws_FnExactSuits: function 6 -/
def laws_FnExactSuits.f (k : Nat) (a0_0 : Int) (a0_1 : Int) (a0_2 : Int) (l0_3 : List Int) (l0_4 : List Bool) (a0_5 : Int) (a1_0 : Int) (a1_1 : Int) (a1_2 : Int) (a1_3 : Int) (l1_4 : List Int) (l1_5 : List Bool) : Option (Bool) := (laws_szReq.f a0_0 a0_1 a0_2 l0_3 l0_4 a0_5 1048576).bind fun t278 => (if t278 < 0 then (some true) else ((laws_szResp.f a1_0 a1_1 a1_2 a1_3 l1_4 l1_5 t278).bind fun t279 => (if t279 < 0 then (some true) else ((laws_toReq.f k a0_0 a0_1 a0_2 l0_3 l0_4 a0_5).bind fun bt280 => ((laws_toResp.f k a1_0 a1_1 a1_2 a1_3 l1_4 l1_5).bind fun bt290 => ((spec_Suits.f k bt280.1 bt280.2.1 bt280.2.2.1 bt280.2.2.2.1 bt280.2.2.2.2.1 bt280.2.2.2.2.2 bt290.1 bt290.2.1 bt290.2.2.1 bt290.2.2.2.1 bt290.2.2.2.2.1 bt290.2.2.2.2.2).bind fun t300 => ((laws_toReq.f k a0_0 a0_1 a0_2 l0_3 l0_4 a0_5).bind fun bt301 => ((laws_toResp.f k a1_0 a1_1 a1_2 a1_3 l1_4 l1_5).bind fun bt312 => ((impl_Suits.f k bt301.1 bt301.2.1 bt301.2.2.1 bt301.2.2.2.1 bt301.2.2.2.2.1 bt301.2.2.2.2.2 bt312.1 bt312.2.1 bt312.2.2.1 bt312.2.2.2.1 bt312.2.2.2.2.1 bt312.2.2.2.2.2).bind fun t323 => (if (t323 != t300) = true then (some false) else ((laws_toReq.f k a0_0 a0_1 a0_2 l0_3 l0_4 a0_5).bind fun bt324 => ((laws_eqReq.f k bt301.1 bt301.2.1 bt301.2.2.1 bt301.2.2.2.1 bt301.2.2.2.2.1 bt301.2.2.2.2.2 bt324.1 bt324.2.1 bt324.2.2.1 bt324.2.2.2.1 bt324.2.2.2.2.1 bt324.2.2.2.2.2).bind fun t334 => (if t334 = true then ((laws_toResp.f k a1_0 a1_1 a1_2 a1_3 l1_4 l1_5).bind fun bt335 => ((laws_eqResp.f k bt312.1 bt312.2.1 bt312.2.2.1 bt312.2.2.2.1 bt312.2.2.2.2.1 bt312.2.2.2.2.2 bt335.1 bt335.2.1 bt335.2.2.1 bt335.2.2.2.1 bt335.2.2.2.2.1 bt335.2.2.2.2.2).bind fun t345 => (if t345 = true then (some true) else (some false)))) else (some false))))))))))))))
theorem laws_FnExactSuits.mono : ∀ a0 a1 a2 a3 a4 a5 a6 a7 a8 a9 a10 a11 k, LeO (laws_FnExactSuits.f k a0 a1 a2 a3 a4 a5 a6 a7 a8 a9 a10 a11) (laws_FnExactSuits.f (k + 1) a0 a1 a2 a3 a4 a5 a6 a7 a8 a9 a10 a11) := by
 intro a0 a1 a2 a3 a4 a5 a6 a7 a8 a9 a10 a11 k
 unfold laws_FnExactSuits.f
 repeat' first
   | (with_reducible exact impl_Suits.mono _ _ _ _ _ _ _ _ _ _ _ _ _)
   | (with_reducible exact laws_eqReq.mono _ _ _ _ _ _ _ _ _ _ _ _ _)
   | (with_reducible exact laws_eqResp.mono _ _ _ _ _ _ _ _ _ _ _ _ _)
   | (with_reducible exact laws_toReq.mono _ _ _ _ _ _ _)
   | (with_reducible exact laws_toResp.mono _ _ _ _ _ _ _)
   | (with_reducible exact spec_Suits.mono _ _ _ _ _ _ _ _ _ _ _ _ _)
   | (with_reducible exact LeO.refl _)
   | (with_reducible exact LeO.none _)
   | (with_reducible refine LeO.ite ?_ ?_)
   | (with_reducible refine LeO.bind ?_ (fun _ => ?_))
   | exact impl_Suits.mono _ _ _ _ _ _ _ _ _ _ _ _ _
   | exact laws_eqReq.mono _ _ _ _ _ _ _ _ _ _ _ _ _
   | exact laws_eqResp.mono _ _ _ _ _ _ _ _ _ _ _ _ _
   | exact laws_toReq.mono _ _ _ _ _ _ _
   | exact laws_toResp.mono _ _ _ _ _ _ _
   | exact spec_Suits.mono _ _ _ _ _ _ _ _ _ _ _ _ _
   | exact LeO.none _
   | refine LeO.ite ?_ ?_
   | refine LeO.bind ?_ (fun _ => ?_)
set_option maxHeartbeats 8000000 in
set_option maxRecDepth 100000 in
theorem laws_FnExactSuits.calls (k : Nat) (a0_0 : Int) (a0_1 : Int) (a0_2 : Int) (A0_3 : Option Addr) (c0_3 : Nat) (l0_3 : List Int) (A0_4 : Option Addr) (c0_4 : Nat) (l0_4 : List Bool) (a0_5 : Int) (a1_0 : Int) (a1_1 : Int) (a1_2 : Int) (a1_3 : Int) (A1_4 : Option Addr) (c1_4 : Nat) (l1_4 : List Int) (A1_5 : Option Addr) (c1_5 : Nat) (l1_5 : List Bool) (r : Bool) (w : World) (hr0_3 : Kd.C (Kd.int .i64) w A0_3 l0_3.length l0_3) (hc0_3 : l0_3.length ≤ c0_3) (hr0_4 : Kd.C Kd.bool w A0_4 l0_4.length l0_4) (hc0_4 : l0_4.length ≤ c0_4) (hr1_4 : Kd.C (Kd.int .i64) w A1_4 l1_4.length l1_4) (hc1_4 : l1_4.length ≤ c1_4) (hr1_5 : Kd.C Kd.bool w A1_5 l1_5.length l1_5) (hc1_5 : l1_5.length ≤ c1_5) (h : laws_FnExactSuits.f k a0_0 a0_1 a0_2 l0_3 l0_4 a0_5 a1_0 a1_1 a1_2 a1_3 l1_4 l1_5 = some r) :
  Calls Try.prog 6 #[.agg #[.int .i64 a0_0, .int .i64 a0_1, .int .i64 a0_2, .slice A0_3 l0_3.length c0_3, .slice A0_4 l0_4.length c0_4, .int .i64 a0_5], .agg #[.int .i64 a1_0, .int .i64 a1_1, .int .i64 a1_2, .int .i64 a1_3, .slice A1_4 l1_4.length c1_4, .slice A1_5 l1_5.length c1_5]] w fun e w' => e = .returned (.bool r) ∧ Below w.heap.size w w' := by
 have hu33 := Try.underlying33
 have hu25 := Try.underlying25
 have hu36 := Try.underlying36
 have hu28 := Try.underlying28
 have HR0_3 := aM hr0_3
 have HC0_3 := aM hc0_3
 clear hr0_3 hc0_3
 have HR0_4 := aM hr0_4
 have HC0_4 := aM hc0_4
 clear hr0_4 hc0_4
 have HR1_4 := aM hr1_4
 have HC1_4 := aM hc1_4
 clear hr1_4 hc1_4
 have HR1_5 := aM hr1_5
 have HC1_5 := aM hc1_5
 clear hr1_5 hc1_5
 have HB := aM (Below.refl w.heap.size w)
 have H : ((laws_szReq.f a0_0 a0_1 a0_2 l0_3 l0_4 a0_5 1048576).bind fun t278 => (if t278 < 0 then (some true) else ((laws_szResp.f a1_0 a1_1 a1_2 a1_3 l1_4 l1_5 t278).bind fun t279 => (if t279 < 0 then (some true) else ((laws_toReq.f k a0_0 a0_1 a0_2 l0_3 l0_4 a0_5).bind fun bt280 => ((laws_toResp.f k a1_0 a1_1 a1_2 a1_3 l1_4 l1_5).bind fun bt290 => ((spec_Suits.f k bt280.1 bt280.2.1 bt280.2.2.1 bt280.2.2.2.1 bt280.2.2.2.2.1 bt280.2.2.2.2.2 bt290.1 bt290.2.1 bt290.2.2.1 bt290.2.2.2.1 bt290.2.2.2.2.1 bt290.2.2.2.2.2).bind fun t300 => ((laws_toReq.f k a0_0 a0_1 a0_2 l0_3 l0_4 a0_5).bind fun bt301 => ((laws_toResp.f k a1_0 a1_1 a1_2 a1_3 l1_4 l1_5).bind fun bt312 => ((impl_Suits.f k bt301.1 bt301.2.1 bt301.2.2.1 bt301.2.2.2.1 bt301.2.2.2.2.1 bt301.2.2.2.2.2 bt312.1 bt312.2.1 bt312.2.2.1 bt312.2.2.2.1 bt312.2.2.2.2.1 bt312.2.2.2.2.2).bind fun t323 => (if (t323 != t300) = true then (some false) else ((laws_toReq.f k a0_0 a0_1 a0_2 l0_3 l0_4 a0_5).bind fun bt324 => ((laws_eqReq.f k bt301.1 bt301.2.1 bt301.2.2.1 bt301.2.2.2.1 bt301.2.2.2.2.1 bt301.2.2.2.2.2 bt324.1 bt324.2.1 bt324.2.2.1 bt324.2.2.2.1 bt324.2.2.2.2.1 bt324.2.2.2.2.2).bind fun t334 => (if t334 = true then ((laws_toResp.f k a1_0 a1_1 a1_2 a1_3 l1_4 l1_5).bind fun bt335 => ((laws_eqResp.f k bt312.1 bt312.2.1 bt312.2.2.1 bt312.2.2.2.1 bt312.2.2.2.2.1 bt312.2.2.2.2.2 bt335.1 bt335.2.1 bt335.2.2.1 bt335.2.2.2.1 bt335.2.2.2.2.1 bt335.2.2.2.2.2).bind fun t345 => (if t345 = true then (some true) else (some false)))) else (some false))))))))))))))) = some r := h
 clear h
 replace H := Option.bind_eq_some_iff.mp H
 obtain ⟨t278, A30, H⟩ := H
 replace H : (if t278 < 0 then (some true) else ((laws_szResp.f a1_0 a1_1 a1_2 a1_3 l1_4 l1_5 t278).bind fun t279 => (if t279 < 0 then (some true) else ((laws_toReq.f k a0_0 a0_1 a0_2 l0_3 l0_4 a0_5).bind fun bt280 => ((laws_toResp.f k a1_0 a1_1 a1_2 a1_3 l1_4 l1_5).bind fun bt290 => ((spec_Suits.f k bt280.1 bt280.2.1 bt280.2.2.1 bt280.2.2.2.1 bt280.2.2.2.2.1 bt280.2.2.2.2.2 bt290.1 bt290.2.1 bt290.2.2.1 bt290.2.2.2.1 bt290.2.2.2.2.1 bt290.2.2.2.2.2).bind fun t300 => ((laws_toReq.f k a0_0 a0_1 a0_2 l0_3 l0_4 a0_5).bind fun bt301 => ((laws_toResp.f k a1_0 a1_1 a1_2 a1_3 l1_4 l1_5).bind fun bt312 => ((impl_Suits.f k bt301.1 bt301.2.1 bt301.2.2.1 bt301.2.2.2.1 bt301.2.2.2.2.1 bt301.2.2.2.2.2 bt312.1 bt312.2.1 bt312.2.2.1 bt312.2.2.2.1 bt312.2.2.2.2.1 bt312.2.2.2.2.2).bind fun t323 => (if (t323 != t300) = true then (some false) else ((laws_toReq.f k a0_0 a0_1 a0_2 l0_3 l0_4 a0_5).bind fun bt324 => ((laws_eqReq.f k bt301.1 bt301.2.1 bt301.2.2.1 bt301.2.2.2.1 bt301.2.2.2.2.1 bt301.2.2.2.2.2 bt324.1 bt324.2.1 bt324.2.2.1 bt324.2.2.2.1 bt324.2.2.2.2.1 bt324.2.2.2.2.2).bind fun t334 => (if t334 = true then ((laws_toResp.f k a1_0 a1_1 a1_2 a1_3 l1_4 l1_5).bind fun bt335 => ((laws_eqResp.f k bt312.1 bt312.2.1 bt312.2.2.1 bt312.2.2.2.1 bt312.2.2.2.2.1 bt312.2.2.2.2.2 bt335.1 bt335.2.1 bt335.2.2.1 bt335.2.2.2.1 bt335.2.2.2.2.1 bt335.2.2.2.2.2).bind fun t345 => (if t345 = true then (some true) else (some false)))) else (some false)))))))))))))) = some r := H
 have A3 := aM A30
 clear A30
 by_cases c4 : t278 < 0
 ·rw [if_pos c4] at H
  have c4b0 : decide (t278 < 0) = true := decide_eq_true c4
  clear c4
  obtain rfl := Option.some.inj H
  go_enter Try.func6, Try.ntmps6
  go_wp2_with (first | ((with_reducible refine gate_dst (N := 2) rfl ?_); refine box_event ?hg (N := 2) ?hd (cs := #[.int .i64 a0_0, .int .i64 a0_1, .int .i64 a0_2, .slice A0_3 l0_3.length c0_3, .slice A0_4 l0_4.length c0_4, .int .i64 a0_5]) (t := 33) ?hr ?_; (case hd => rfl); (case hg => rfl); (case hr => first | (go_simp; done) | (go_simp; rfl)); intro gb276 hg w5 hbox hb; have _ := aM (below_step (bS HB.out) hb); have _ := aM (hbox); have _ := aM (leG hg (bS HB.out)); have _ := aM (leG hg (bS HB.out)); clear HB; rename_i HB BK276 GW276 GE276; clear hb hbox hg) | ((with_reducible refine gate_dst (N := 3) rfl ?_); refine box_event ?hg (N := 3) ?hd (cs := #[.int .i64 a1_0, .int .i64 a1_1, .int .i64 a1_2, .int .i64 a1_3, .slice A1_4 l1_4.length c1_4, .slice A1_5 l1_5.length c1_5]) (t := 25) ?hr ?_; (case hd => rfl); (case hg => rfl); (case hr => first | (go_simp; done) | (go_simp; rfl)); intro gb277 hg w6 hbox hb; have _ := aM (kB BK276.out hb); have _ := aM (below_step (bS HB.out) hb); have _ := aM (hbox); have _ := aM (leG hg (bS HB.out)); have _ := aM (leG hg (bS HB.out)); have _ := aM (neL hg (kA BK276.out)); have _ := aM (neG hg (kA BK276.out)); clear BK276 HB; rename_i BK276 HB BK277 GW277 GE277 NB276_277 NB277_276; clear hb hbox hg; have hnb7 := NB276_277.out; have hnc7 := NB277_276.out; obtain ⟨hcz8_0, hfz8_0, hcz8_1, hfz8_1, hcz8_2, hfz8_2, hcz8_3, hfz8_3, hcz8_4, hfz8_4, hcz8_5, hfz8_5⟩ := bk6 BK276.out) | ((with_reducible refine gate_callee (f := 13) rfl ?_); refine gL (some 12) rfl rfl Try.func13 (by kernel_rfl) rfl #[.agg #[.int .i64 a0_0, .int .i64 a0_1, .int .i64 a0_2, .slice A0_3 l0_3.length c0_3, .slice A0_4 l0_4.length c0_4, .int .i64 a0_5], .int .i64 1048576] rfl ?_; (with_reducible refine (laws_szReq.calls a0_0 a0_1 a0_2 _ _ l0_3 _ _ l0_4 a0_5 1048576 t278 _ ?side1 ?side2 ?side3 ?side4 A3.out).mono ?_); (case side1 => exact cB HR0_3.out HB.out); (case side2 => exact HC0_3.out); (case side3 => exact cB HR0_4.out HB.out); (case side4 => exact HC0_4.out); rintro e w9 ⟨rfl, hb⟩; refine ⟨_, rfl, ?_⟩; have _ := aM (kB BK276.out hb); have _ := aM (kB BK277.out hb); have _ := aM (below_step (bS HB.out) hb); clear BK276 BK277 HB; rename_i BK276 BK277 HB; (try clear hb)))
  go_ret
  exact ⟨by first | rfl | (simp [errW_none, errW_some] <;> rfl) | (simp [*, errW_none, errW_some] <;> rfl), bS HB.out⟩
 ·rw [if_neg c4] at H
  have c4b0 : decide (t278 < 0) = false := decide_eq_false c4
  clear c4
  replace H := Option.bind_eq_some_iff.mp H
  obtain ⟨t279, A100, H⟩ := H
  replace H : (if t279 < 0 then (some true) else ((laws_toReq.f k a0_0 a0_1 a0_2 l0_3 l0_4 a0_5).bind fun bt280 => ((laws_toResp.f k a1_0 a1_1 a1_2 a1_3 l1_4 l1_5).bind fun bt290 => ((spec_Suits.f k bt280.1 bt280.2.1 bt280.2.2.1 bt280.2.2.2.1 bt280.2.2.2.2.1 bt280.2.2.2.2.2 bt290.1 bt290.2.1 bt290.2.2.1 bt290.2.2.2.1 bt290.2.2.2.2.1 bt290.2.2.2.2.2).bind fun t300 => ((laws_toReq.f k a0_0 a0_1 a0_2 l0_3 l0_4 a0_5).bind fun bt301 => ((laws_toResp.f k a1_0 a1_1 a1_2 a1_3 l1_4 l1_5).bind fun bt312 => ((impl_Suits.f k bt301.1 bt301.2.1 bt301.2.2.1 bt301.2.2.2.1 bt301.2.2.2.2.1 bt301.2.2.2.2.2 bt312.1 bt312.2.1 bt312.2.2.1 bt312.2.2.2.1 bt312.2.2.2.2.1 bt312.2.2.2.2.2).bind fun t323 => (if (t323 != t300) = true then (some false) else ((laws_toReq.f k a0_0 a0_1 a0_2 l0_3 l0_4 a0_5).bind fun bt324 => ((laws_eqReq.f k bt301.1 bt301.2.1 bt301.2.2.1 bt301.2.2.2.1 bt301.2.2.2.2.1 bt301.2.2.2.2.2 bt324.1 bt324.2.1 bt324.2.2.1 bt324.2.2.2.1 bt324.2.2.2.2.1 bt324.2.2.2.2.2).bind fun t334 => (if t334 = true then ((laws_toResp.f k a1_0 a1_1 a1_2 a1_3 l1_4 l1_5).bind fun bt335 => ((laws_eqResp.f k bt312.1 bt312.2.1 bt312.2.2.1 bt312.2.2.2.1 bt312.2.2.2.2.1 bt312.2.2.2.2.2 bt335.1 bt335.2.1 bt335.2.2.1 bt335.2.2.2.1 bt335.2.2.2.2.1 bt335.2.2.2.2.2).bind fun t345 => (if t345 = true then (some true) else (some false)))) else (some false)))))))))))) = some r := H
  have A10 := aM A100
  clear A100
  by_cases c11 : t279 < 0
  ·rw [if_pos c11] at H
   have c11b0 : decide (t279 < 0) = true := decide_eq_true c11
   clear c11
   obtain rfl := Option.some.inj H
   go_enter Try.func6, Try.ntmps6
   go_wp2_with (first | ((with_reducible refine gate_dst (N := 2) rfl ?_); refine box_event ?hg (N := 2) ?hd (cs := #[.int .i64 a0_0, .int .i64 a0_1, .int .i64 a0_2, .slice A0_3 l0_3.length c0_3, .slice A0_4 l0_4.length c0_4, .int .i64 a0_5]) (t := 33) ?hr ?_; (case hd => rfl); (case hg => rfl); (case hr => first | (go_simp; done) | (go_simp; rfl)); intro gb276 hg w12 hbox hb; have _ := aM (below_step (bS HB.out) hb); have _ := aM (hbox); have _ := aM (leG hg (bS HB.out)); have _ := aM (leG hg (bS HB.out)); clear HB; rename_i HB BK276 GW276 GE276; clear hb hbox hg) | ((with_reducible refine gate_dst (N := 3) rfl ?_); refine box_event ?hg (N := 3) ?hd (cs := #[.int .i64 a1_0, .int .i64 a1_1, .int .i64 a1_2, .int .i64 a1_3, .slice A1_4 l1_4.length c1_4, .slice A1_5 l1_5.length c1_5]) (t := 25) ?hr ?_; (case hd => rfl); (case hg => rfl); (case hr => first | (go_simp; done) | (go_simp; rfl)); intro gb277 hg w13 hbox hb; have _ := aM (kB BK276.out hb); have _ := aM (below_step (bS HB.out) hb); have _ := aM (hbox); have _ := aM (leG hg (bS HB.out)); have _ := aM (leG hg (bS HB.out)); have _ := aM (neL hg (kA BK276.out)); have _ := aM (neG hg (kA BK276.out)); clear BK276 HB; rename_i BK276 HB BK277 GW277 GE277 NB276_277 NB277_276; clear hb hbox hg; have hnb14 := NB276_277.out; have hnc14 := NB277_276.out; obtain ⟨hcz15_0, hfz15_0, hcz15_1, hfz15_1, hcz15_2, hfz15_2, hcz15_3, hfz15_3, hcz15_4, hfz15_4, hcz15_5, hfz15_5⟩ := bk6 BK276.out) | ((with_reducible refine gate_callee (f := 13) rfl ?_); refine gL (some 12) rfl rfl Try.func13 (by kernel_rfl) rfl #[.agg #[.int .i64 a0_0, .int .i64 a0_1, .int .i64 a0_2, .slice A0_3 l0_3.length c0_3, .slice A0_4 l0_4.length c0_4, .int .i64 a0_5], .int .i64 1048576] rfl ?_; (with_reducible refine (laws_szReq.calls a0_0 a0_1 a0_2 _ _ l0_3 _ _ l0_4 a0_5 1048576 t278 _ ?side1 ?side2 ?side3 ?side4 A3.out).mono ?_); (case side1 => exact cB HR0_3.out HB.out); (case side2 => exact HC0_3.out); (case side3 => exact cB HR0_4.out HB.out); (case side4 => exact HC0_4.out); rintro e w16 ⟨rfl, hb⟩; refine ⟨_, rfl, ?_⟩; have _ := aM (kB BK276.out hb); have _ := aM (kB BK277.out hb); have _ := aM (below_step (bS HB.out) hb); clear BK276 BK277 HB; rename_i BK276 BK277 HB; (try clear hb); obtain ⟨hcz17_0, hfz17_0, hcz17_1, hfz17_1, hcz17_2, hfz17_2, hcz17_3, hfz17_3, hcz17_4, hfz17_4, hcz17_5, hfz17_5⟩ := bk6 BK277.out) | ((with_reducible refine gate_callee (f := 8) rfl ?_); refine gL (some 17) rfl rfl Try.func8 (by kernel_rfl) rfl #[.agg #[.int .i64 a1_0, .int .i64 a1_1, .int .i64 a1_2, .int .i64 a1_3, .slice A1_4 l1_4.length c1_4, .slice A1_5 l1_5.length c1_5], .int .i64 t278] rfl ?_; (with_reducible refine (laws_szResp.calls a1_0 a1_1 a1_2 a1_3 _ _ l1_4 _ _ l1_5 t278 t279 _ ?side1 ?side2 ?side3 ?side4 A10.out).mono ?_); (case side1 => exact cB HR1_4.out HB.out); (case side2 => exact HC1_4.out); (case side3 => exact cB HR1_5.out HB.out); (case side4 => exact HC1_5.out); rintro e w18 ⟨rfl, hb⟩; refine ⟨_, rfl, ?_⟩; have _ := aM (kB BK276.out hb); have _ := aM (kB BK277.out hb); have _ := aM (below_step (bS HB.out) hb); clear BK276 BK277 HB; rename_i BK276 BK277 HB; (try clear hb)))
   go_ret
   exact ⟨by first | rfl | (simp [errW_none, errW_some] <;> rfl) | (simp [*, errW_none, errW_some] <;> rfl), bS HB.out⟩
  ·rw [if_neg c11] at H
   have c11b0 : decide (t279 < 0) = false := decide_eq_false c11
   clear c11
   replace H := Option.bind_eq_some_iff.mp H
   obtain ⟨⟨t280, t281, t282, t283, t286, t289⟩, A190, H⟩ := H
   replace H : ((laws_toResp.f k a1_0 a1_1 a1_2 a1_3 l1_4 l1_5).bind fun bt290 => ((spec_Suits.f k t280 t281 t282 t283 t286 t289 bt290.1 bt290.2.1 bt290.2.2.1 bt290.2.2.2.1 bt290.2.2.2.2.1 bt290.2.2.2.2.2).bind fun t300 => ((laws_toReq.f k a0_0 a0_1 a0_2 l0_3 l0_4 a0_5).bind fun bt301 => ((laws_toResp.f k a1_0 a1_1 a1_2 a1_3 l1_4 l1_5).bind fun bt312 => ((impl_Suits.f k bt301.1 bt301.2.1 bt301.2.2.1 bt301.2.2.2.1 bt301.2.2.2.2.1 bt301.2.2.2.2.2 bt312.1 bt312.2.1 bt312.2.2.1 bt312.2.2.2.1 bt312.2.2.2.2.1 bt312.2.2.2.2.2).bind fun t323 => (if (t323 != t300) = true then (some false) else ((laws_toReq.f k a0_0 a0_1 a0_2 l0_3 l0_4 a0_5).bind fun bt324 => ((laws_eqReq.f k bt301.1 bt301.2.1 bt301.2.2.1 bt301.2.2.2.1 bt301.2.2.2.2.1 bt301.2.2.2.2.2 bt324.1 bt324.2.1 bt324.2.2.1 bt324.2.2.2.1 bt324.2.2.2.2.1 bt324.2.2.2.2.2).bind fun t334 => (if t334 = true then ((laws_toResp.f k a1_0 a1_1 a1_2 a1_3 l1_4 l1_5).bind fun bt335 => ((laws_eqResp.f k bt312.1 bt312.2.1 bt312.2.2.1 bt312.2.2.2.1 bt312.2.2.2.2.1 bt312.2.2.2.2.2 bt335.1 bt335.2.1 bt335.2.2.1 bt335.2.2.2.1 bt335.2.2.2.2.1 bt335.2.2.2.2.2).bind fun t345 => (if t345 = true then (some true) else (some false)))) else (some false)))))))))) = some r := H
   have A19 := aM A190
   clear A190
   replace H := Option.bind_eq_some_iff.mp H
   obtain ⟨⟨t290, t291, t292, t293, t294, t297⟩, A200, H⟩ := H
   replace H : ((spec_Suits.f k t280 t281 t282 t283 t286 t289 t290 t291 t292 t293 t294 t297).bind fun t300 => ((laws_toReq.f k a0_0 a0_1 a0_2 l0_3 l0_4 a0_5).bind fun bt301 => ((laws_toResp.f k a1_0 a1_1 a1_2 a1_3 l1_4 l1_5).bind fun bt312 => ((impl_Suits.f k bt301.1 bt301.2.1 bt301.2.2.1 bt301.2.2.2.1 bt301.2.2.2.2.1 bt301.2.2.2.2.2 bt312.1 bt312.2.1 bt312.2.2.1 bt312.2.2.2.1 bt312.2.2.2.2.1 bt312.2.2.2.2.2).bind fun t323 => (if (t323 != t300) = true then (some false) else ((laws_toReq.f k a0_0 a0_1 a0_2 l0_3 l0_4 a0_5).bind fun bt324 => ((laws_eqReq.f k bt301.1 bt301.2.1 bt301.2.2.1 bt301.2.2.2.1 bt301.2.2.2.2.1 bt301.2.2.2.2.2 bt324.1 bt324.2.1 bt324.2.2.1 bt324.2.2.2.1 bt324.2.2.2.2.1 bt324.2.2.2.2.2).bind fun t334 => (if t334 = true then ((laws_toResp.f k a1_0 a1_1 a1_2 a1_3 l1_4 l1_5).bind fun bt335 => ((laws_eqResp.f k bt312.1 bt312.2.1 bt312.2.2.1 bt312.2.2.2.1 bt312.2.2.2.2.1 bt312.2.2.2.2.2 bt335.1 bt335.2.1 bt335.2.2.1 bt335.2.2.2.1 bt335.2.2.2.2.1 bt335.2.2.2.2.2).bind fun t345 => (if t345 = true then (some true) else (some false)))) else (some false))))))))) = some r := H
   have A20 := aM A200
   clear A200
   replace H := Option.bind_eq_some_iff.mp H
   obtain ⟨t300, A210, H⟩ := H
   replace H : ((laws_toReq.f k a0_0 a0_1 a0_2 l0_3 l0_4 a0_5).bind fun bt301 => ((laws_toResp.f k a1_0 a1_1 a1_2 a1_3 l1_4 l1_5).bind fun bt312 => ((impl_Suits.f k bt301.1 bt301.2.1 bt301.2.2.1 bt301.2.2.2.1 bt301.2.2.2.2.1 bt301.2.2.2.2.2 bt312.1 bt312.2.1 bt312.2.2.1 bt312.2.2.2.1 bt312.2.2.2.2.1 bt312.2.2.2.2.2).bind fun t323 => (if (t323 != t300) = true then (some false) else ((laws_toReq.f k a0_0 a0_1 a0_2 l0_3 l0_4 a0_5).bind fun bt324 => ((laws_eqReq.f k bt301.1 bt301.2.1 bt301.2.2.1 bt301.2.2.2.1 bt301.2.2.2.2.1 bt301.2.2.2.2.2 bt324.1 bt324.2.1 bt324.2.2.1 bt324.2.2.2.1 bt324.2.2.2.2.1 bt324.2.2.2.2.2).bind fun t334 => (if t334 = true then ((laws_toResp.f k a1_0 a1_1 a1_2 a1_3 l1_4 l1_5).bind fun bt335 => ((laws_eqResp.f k bt312.1 bt312.2.1 bt312.2.2.1 bt312.2.2.2.1 bt312.2.2.2.2.1 bt312.2.2.2.2.2 bt335.1 bt335.2.1 bt335.2.2.1 bt335.2.2.2.1 bt335.2.2.2.2.1 bt335.2.2.2.2.2).bind fun t345 => (if t345 = true then (some true) else (some false)))) else (some false)))))))) = some r := H
   have A21 := aM A210
   clear A210
   replace H := Option.bind_eq_some_iff.mp H
   obtain ⟨⟨t301, t302, t303, t304, t307, t310⟩, A220, H⟩ := H
   replace H : ((laws_toResp.f k a1_0 a1_1 a1_2 a1_3 l1_4 l1_5).bind fun bt312 => ((impl_Suits.f k t301 t302 t303 t304 t307 t310 bt312.1 bt312.2.1 bt312.2.2.1 bt312.2.2.2.1 bt312.2.2.2.2.1 bt312.2.2.2.2.2).bind fun t323 => (if (t323 != t300) = true then (some false) else ((laws_toReq.f k a0_0 a0_1 a0_2 l0_3 l0_4 a0_5).bind fun bt324 => ((laws_eqReq.f k t301 t302 t303 t304 t307 t310 bt324.1 bt324.2.1 bt324.2.2.1 bt324.2.2.2.1 bt324.2.2.2.2.1 bt324.2.2.2.2.2).bind fun t334 => (if t334 = true then ((laws_toResp.f k a1_0 a1_1 a1_2 a1_3 l1_4 l1_5).bind fun bt335 => ((laws_eqResp.f k bt312.1 bt312.2.1 bt312.2.2.1 bt312.2.2.2.1 bt312.2.2.2.2.1 bt312.2.2.2.2.2 bt335.1 bt335.2.1 bt335.2.2.1 bt335.2.2.2.1 bt335.2.2.2.2.1 bt335.2.2.2.2.2).bind fun t345 => (if t345 = true then (some true) else (some false)))) else (some false))))))) = some r := H
   have A22 := aM A220
   clear A220
   replace H := Option.bind_eq_some_iff.mp H
   obtain ⟨⟨t312, t313, t314, t315, t316, t319⟩, A230, H⟩ := H
   replace H : ((impl_Suits.f k t301 t302 t303 t304 t307 t310 t312 t313 t314 t315 t316 t319).bind fun t323 => (if (t323 != t300) = true then (some false) else ((laws_toReq.f k a0_0 a0_1 a0_2 l0_3 l0_4 a0_5).bind fun bt324 => ((laws_eqReq.f k t301 t302 t303 t304 t307 t310 bt324.1 bt324.2.1 bt324.2.2.1 bt324.2.2.2.1 bt324.2.2.2.2.1 bt324.2.2.2.2.2).bind fun t334 => (if t334 = true then ((laws_toResp.f k a1_0 a1_1 a1_2 a1_3 l1_4 l1_5).bind fun bt335 => ((laws_eqResp.f k t312 t313 t314 t315 t316 t319 bt335.1 bt335.2.1 bt335.2.2.1 bt335.2.2.2.1 bt335.2.2.2.2.1 bt335.2.2.2.2.2).bind fun t345 => (if t345 = true then (some true) else (some false)))) else (some false)))))) = some r := H
   have A23 := aM A230
   clear A230
   replace H := Option.bind_eq_some_iff.mp H
   obtain ⟨t323, A240, H⟩ := H
   replace H : (if (t323 != t300) = true then (some false) else ((laws_toReq.f k a0_0 a0_1 a0_2 l0_3 l0_4 a0_5).bind fun bt324 => ((laws_eqReq.f k t301 t302 t303 t304 t307 t310 bt324.1 bt324.2.1 bt324.2.2.1 bt324.2.2.2.1 bt324.2.2.2.2.1 bt324.2.2.2.2.2).bind fun t334 => (if t334 = true then ((laws_toResp.f k a1_0 a1_1 a1_2 a1_3 l1_4 l1_5).bind fun bt335 => ((laws_eqResp.f k t312 t313 t314 t315 t316 t319 bt335.1 bt335.2.1 bt335.2.2.1 bt335.2.2.2.1 bt335.2.2.2.2.1 bt335.2.2.2.2.2).bind fun t345 => (if t345 = true then (some true) else (some false)))) else (some false))))) = some r := H
   have A24 := aM A240
   clear A240
   by_cases c25 : (t323 != t300) = true
   ·rw [if_pos c25] at H
    have c25b0 : (t323 != t300) = true := c25
    (try (have c25b1 : decide (t323 = t300) = false := by simpa using c25))
    (try (have c25b2 : (t323 == t300) = false := by simpa using c25))
    (try (have c25b3 : ¬ (t323 = t300) := by simpa using c25))
    clear c25
    obtain rfl := Option.some.inj H
    go_enter Try.func6, Try.ntmps6
    try go_wp2_with (first | ((with_reducible refine gate_dst (N := 2) rfl ?_); refine box_event ?hg (N := 2) ?hd (cs := #[.int .i64 a0_0, .int .i64 a0_1, .int .i64 a0_2, .slice A0_3 l0_3.length c0_3, .slice A0_4 l0_4.length c0_4, .int .i64 a0_5]) (t := 33) ?hr ?_; (case hd => rfl); (case hg => rfl); (case hr => first | (go_simp; done) | (go_simp; rfl)); intro gb276 hg w26 hbox hb; have _ := aM (below_step (bS HB.out) hb); have _ := aM (hbox); have _ := aM (leG hg (bS HB.out)); have _ := aM (leG hg (bS HB.out)); clear HB; rename_i HB BK276 GW276 GE276; clear hb hbox hg) | ((with_reducible refine gate_dst (N := 3) rfl ?_); refine box_event ?hg (N := 3) ?hd (cs := #[.int .i64 a1_0, .int .i64 a1_1, .int .i64 a1_2, .int .i64 a1_3, .slice A1_4 l1_4.length c1_4, .slice A1_5 l1_5.length c1_5]) (t := 25) ?hr ?_; (case hd => rfl); (case hg => rfl); (case hr => first | (go_simp; done) | (go_simp; rfl)); intro gb277 hg w27 hbox hb; have _ := aM (kB BK276.out hb); have _ := aM (below_step (bS HB.out) hb); have _ := aM (hbox); have _ := aM (leG hg (bS HB.out)); have _ := aM (leG hg (bS HB.out)); have _ := aM (neL hg (kA BK276.out)); have _ := aM (neG hg (kA BK276.out)); clear BK276 HB; rename_i BK276 HB BK277 GW277 GE277 NB276_277 NB277_276; clear hb hbox hg; have hnb28 := NB276_277.out; have hnc28 := NB277_276.out; obtain ⟨hcz29_0, hfz29_0, hcz29_1, hfz29_1, hcz29_2, hfz29_2, hcz29_3, hfz29_3, hcz29_4, hfz29_4, hcz29_5, hfz29_5⟩ := bk6 BK276.out) | ((with_reducible refine gate_callee (f := 13) rfl ?_); refine gL (some 12) rfl rfl Try.func13 (by kernel_rfl) rfl #[.agg #[.int .i64 a0_0, .int .i64 a0_1, .int .i64 a0_2, .slice A0_3 l0_3.length c0_3, .slice A0_4 l0_4.length c0_4, .int .i64 a0_5], .int .i64 1048576] rfl ?_; (with_reducible refine (laws_szReq.calls a0_0 a0_1 a0_2 _ _ l0_3 _ _ l0_4 a0_5 1048576 t278 _ ?side1 ?side2 ?side3 ?side4 A3.out).mono ?_); (case side1 => exact cB HR0_3.out HB.out); (case side2 => exact HC0_3.out); (case side3 => exact cB HR0_4.out HB.out); (case side4 => exact HC0_4.out); rintro e w30 ⟨rfl, hb⟩; refine ⟨_, rfl, ?_⟩; have _ := aM (kB BK276.out hb); have _ := aM (kB BK277.out hb); have _ := aM (below_step (bS HB.out) hb); clear BK276 BK277 HB; rename_i BK276 BK277 HB; (try clear hb); obtain ⟨hcz31_0, hfz31_0, hcz31_1, hfz31_1, hcz31_2, hfz31_2, hcz31_3, hfz31_3, hcz31_4, hfz31_4, hcz31_5, hfz31_5⟩ := bk6 BK277.out) | ((with_reducible refine gate_callee (f := 8) rfl ?_); refine gL (some 17) rfl rfl Try.func8 (by kernel_rfl) rfl #[.agg #[.int .i64 a1_0, .int .i64 a1_1, .int .i64 a1_2, .int .i64 a1_3, .slice A1_4 l1_4.length c1_4, .slice A1_5 l1_5.length c1_5], .int .i64 t278] rfl ?_; (with_reducible refine (laws_szResp.calls a1_0 a1_1 a1_2 a1_3 _ _ l1_4 _ _ l1_5 t278 t279 _ ?side1 ?side2 ?side3 ?side4 A10.out).mono ?_); (case side1 => exact cB HR1_4.out HB.out); (case side2 => exact HC1_4.out); (case side3 => exact cB HR1_5.out HB.out); (case side4 => exact HC1_5.out); rintro e w32 ⟨rfl, hb⟩; refine ⟨_, rfl, ?_⟩; have _ := aM (kB BK276.out hb); have _ := aM (kB BK277.out hb); have _ := aM (below_step (bS HB.out) hb); clear BK276 BK277 HB; rename_i BK276 BK277 HB; (try clear hb)))
    have n0_ := aM (blk_drew BK276.out)
    have n1_ := aM (blk_drew BK277.out)
    have n2_ := aM (below_drew1 HB.out)
    clear BK276
    clear BK277
    clear HB
    have BK276 := n0_
    have BK277 := n1_
    have HB := n2_
    clear n0_ n1_ n2_
    refine start_ (n := 6) (S := fun w' => w'.cell? ⟨gb276, 0, none⟩ = some (.int .i64 a0_0) ∧ w'.cell? ⟨gb276, 1, none⟩ = some (.int .i64 a0_1) ∧ w'.cell? ⟨gb276, 2, none⟩ = some (.int .i64 a0_2) ∧ w'.cell? ⟨gb276, 3, none⟩ = some (.slice A0_3 l0_3.length c0_3) ∧ w'.cell? ⟨gb276, 4, none⟩ = some (.slice A0_4 l0_4.length c0_4) ∧ w'.cell? ⟨gb276, 5, none⟩ = some (.int .i64 a0_5) ∧ w'.cell? ⟨gb277, 0, none⟩ = some (.int .i64 a1_0) ∧ w'.cell? ⟨gb277, 1, none⟩ = some (.int .i64 a1_1) ∧ w'.cell? ⟨gb277, 2, none⟩ = some (.int .i64 a1_2) ∧ w'.cell? ⟨gb277, 3, none⟩ = some (.int .i64 a1_3) ∧ w'.cell? ⟨gb277, 4, none⟩ = some (.slice A1_4 l1_4.length c1_4) ∧ w'.cell? ⟨gb277, 5, none⟩ = some (.slice A1_5 l1_5.length c1_5)) (ds := []) #[false, false, false, false, false, false] (by kernel_rfl) rfl rfl ⟨(blk_cell BK276.out 0).trans rfl, (blk_cell BK276.out 1).trans rfl, (blk_cell BK276.out 2).trans rfl, (blk_cell BK276.out 3).trans rfl, (blk_cell BK276.out 4).trans rfl, (blk_cell BK276.out 5).trans rfl, (blk_cell BK277.out 0).trans rfl, (blk_cell BK277.out 1).trans rfl, (blk_cell BK277.out 2).trans rfl, (blk_cell BK277.out 3).trans rfl, (blk_cell BK277.out 4).trans rfl, (blk_cell BK277.out 5).trans rfl⟩ (fun hHeld => ?_)
    generalize w32.drew = w33 at BK276 BK277 HB hHeld ⊢
    refine take_ (i := 0) (N := some 20) (v := ?_) (a' := ?_) #[true, false, false, false, false, false] rfl rfl (by kernel_rfl) (fun _ _ _ h => h) (Or.inl ⟨by rfl, ?_⟩) hHeld ?_ ?_
    rotate_left
    ·rintro w' ⟨s0, s1, s2, s3, s4, s5, s6, s7, s8, s9, s10, s11⟩
     go_simp
     with_reducible rfl
    rotate_left
    ·simp only [Act.put, List.setIfInBounds_toArray, List.set_cons_zero, List.set_cons_succ, i64_w, i32_w]
     rfl
    refine take_ (i := 2) (N := some 22) (v := ?_) (a' := ?_) #[true, false, true, false, false, false] rfl rfl (by kernel_rfl) (fun _ _ _ h => h) (Or.inl ⟨by rfl, ?_⟩) hHeld ?_ ?_
    rotate_left
    ·rintro w' ⟨s0, s1, s2, s3, s4, s5, s6, s7, s8, s9, s10, s11⟩
     go_simp
     with_reducible rfl
    rotate_left
    ·simp only [Act.put, List.setIfInBounds_toArray, List.set_cons_zero, List.set_cons_succ, i64_w, i32_w]
     rfl
    refine one_ (i := 1) (N := some 21) #[true, true, true, false, false, false] rfl rfl (by kernel_rfl) (by decide) (fun K hK => ?_)
    refine goes_ Try.func15 (by kernel_rfl) rfl #[.agg #[.int .i64 a0_0, .int .i64 a0_1, .int .i64 a0_2, .slice A0_3 l0_3.length c0_3, .slice A0_4 l0_4.length c0_4, .int .i64 a0_5]] (by rfl) rfl rfl (by (try simp only [List.map_toArray, List.map_cons, List.map_nil]); first | done | rfl | (simp only [List.length_drop, List.length_take]; rfl)) ?_
    with_reducible refine (laws_toReq.calls k a0_0 a0_1 a0_2 _ _ l0_3 _ _ l0_4 a0_5 t280 t281 t282 t283 t286 t289 _ ?side1 ?side2 ?side3 ?side4 A19.out).mono ?_
    (case side1 => exact cB HR0_3.out HB.out)
    (case side2 => exact HC0_3.out)
    (case side3 => exact cB HR0_4.out HB.out)
    (case side4 => exact HC0_4.out)
    rintro e w34 ⟨v284, v287, rfl, ho0, ho1, hb⟩
    refine ⟨_, rfl, ?_⟩
    have n0_ := aM (Kd.R_lower ho0 (below_size (bS HB.out)))
    have n1_ := aM (Kd.R_lower ho1 (below_size (bS HB.out)))
    have n2_ := aM (kB BK276.out hb)
    have n3_ := aM (kB BK277.out hb)
    have n4_ := aM (below_step (bS HB.out) hb)
    clear BK276
    clear BK277
    clear HB
    have HO285 := n0_
    have HO288 := n1_
    have BK276 := n2_
    have BK277 := n3_
    have HB := n4_
    clear n0_ n1_ n2_ n3_ n4_
    (try clear hb)
    (try clear hb2)
    (try clear hk)
    (try clear hi)
    (try clear ho0)
    (try clear ho1)
    refine hK.out _ _ ⟨(blk_cell BK276.out 0).trans rfl, (blk_cell BK276.out 1).trans rfl, (blk_cell BK276.out 2).trans rfl, (blk_cell BK276.out 3).trans rfl, (blk_cell BK276.out 4).trans rfl, (blk_cell BK276.out 5).trans rfl, (blk_cell BK277.out 0).trans rfl, (blk_cell BK277.out 1).trans rfl, (blk_cell BK277.out 2).trans rfl, (blk_cell BK277.out 3).trans rfl, (blk_cell BK277.out 4).trans rfl, (blk_cell BK277.out 5).trans rfl⟩ (fun hHeld => ?_)
    clear hK K
    refine norm_ (a' := ?_) ?_ ?_
    rotate_left
    ·show Act.put _ (some 21) _ = _
     simp only [Act.put, List.setIfInBounds_toArray, List.set_cons_zero, List.set_cons_succ, i64_w, i32_w]
     rfl
    refine one_ (i := 3) (N := some 23) #[true, true, true, true, false, false] rfl rfl (by kernel_rfl) (by decide) (fun K hK => ?_)
    refine goes_ Try.func10 (by kernel_rfl) rfl #[.agg #[.int .i64 a1_0, .int .i64 a1_1, .int .i64 a1_2, .int .i64 a1_3, .slice A1_4 l1_4.length c1_4, .slice A1_5 l1_5.length c1_5]] (by rfl) rfl rfl (by (try simp only [List.map_toArray, List.map_cons, List.map_nil]); first | done | rfl | (simp only [List.length_drop, List.length_take]; rfl)) ?_
    with_reducible refine (laws_toResp.calls k a1_0 a1_1 a1_2 a1_3 _ _ l1_4 _ _ l1_5 t290 t291 t292 t293 t294 t297 _ ?side1 ?side2 ?side3 ?side4 A20.out).mono ?_
    (case side1 => exact cB HR1_4.out HB.out)
    (case side2 => exact HC1_4.out)
    (case side3 => exact cB HR1_5.out HB.out)
    (case side4 => exact HC1_5.out)
    rintro e w35 ⟨v295, v298, rfl, ho0, ho1, hb⟩
    refine ⟨_, rfl, ?_⟩
    have n0_ := aM (Kd.R_elder' (rA HO285.out) (Kd.R_base ho0) hb)
    have n1_ := aM (Kd.R_elder' (rA HO288.out) (Kd.R_base ho1) hb)
    have n2_ := aM (Kd.R_lower (Kd.R_new' ho0 (Kd.R_lt (rA HO285.out))) (below_size (bS HB.out)))
    have n3_ := aM (Kd.R_lower (Kd.R_new' ho1 (Kd.R_lt (rA HO288.out))) (below_size (bS HB.out)))
    have n4_ := aM (kB BK276.out hb)
    have n5_ := aM (kB BK277.out hb)
    have n6_ := aM (below_step (bS HB.out) hb)
    clear HO285
    clear HO288
    clear BK276
    clear BK277
    clear HB
    have HO285 := n0_
    have HO288 := n1_
    have HO296 := n2_
    have HO299 := n3_
    have BK276 := n4_
    have BK277 := n5_
    have HB := n6_
    clear n0_ n1_ n2_ n3_ n4_ n5_ n6_
    (try clear hb)
    (try clear hb2)
    (try clear hk)
    (try clear hi)
    (try clear ho0)
    (try clear ho1)
    obtain ⟨Ao36, co36, eo36⟩ := Kd.R_slice HO285.out
    (first | subst eo36 | (injection eo36 with f1_ f2_ f3_; have f4_ := f1_.symm; have f5_ := f3_.symm; clear f1_ f2_ f3_; subst f4_; subst f5_))
    obtain ⟨Ao37, co37, eo37⟩ := Kd.R_slice HO288.out
    (first | subst eo37 | (injection eo37 with f1_ f2_ f3_; have f4_ := f1_.symm; have f5_ := f3_.symm; clear f1_ f2_ f3_; subst f4_; subst f5_))
    obtain ⟨Ao38, co38, eo38⟩ := Kd.R_slice HO296.out
    (first | subst eo38 | (injection eo38 with f1_ f2_ f3_; have f4_ := f1_.symm; have f5_ := f3_.symm; clear f1_ f2_ f3_; subst f4_; subst f5_))
    obtain ⟨Ao39, co39, eo39⟩ := Kd.R_slice HO299.out
    (first | subst eo39 | (injection eo39 with f1_ f2_ f3_; have f4_ := f1_.symm; have f5_ := f3_.symm; clear f1_ f2_ f3_; subst f4_; subst f5_))
    refine hK.out _ _ ⟨(blk_cell BK276.out 0).trans rfl, (blk_cell BK276.out 1).trans rfl, (blk_cell BK276.out 2).trans rfl, (blk_cell BK276.out 3).trans rfl, (blk_cell BK276.out 4).trans rfl, (blk_cell BK276.out 5).trans rfl, (blk_cell BK277.out 0).trans rfl, (blk_cell BK277.out 1).trans rfl, (blk_cell BK277.out 2).trans rfl, (blk_cell BK277.out 3).trans rfl, (blk_cell BK277.out 4).trans rfl, (blk_cell BK277.out 5).trans rfl⟩ (fun hHeld => ?_)
    clear hK K
    refine norm_ (a' := ?_) ?_ ?_
    rotate_left
    ·show Act.put _ (some 23) _ = _
     simp only [Act.put, List.setIfInBounds_toArray, List.set_cons_zero, List.set_cons_succ, i64_w, i32_w]
     rfl
    refine one_ (i := 4) (N := some 24) #[true, true, true, true, true, false] rfl rfl (by kernel_rfl) (by decide) (fun K hK => ?_)
    refine goes_ Try.func23 (by kernel_rfl) rfl #[.agg #[.int .i64 t280, .int .i64 t281, .int .i64 t282, .slice Ao36 t283.length co36, .slice Ao37 t286.length co37, .int .i64 t289], .agg #[.int .i64 t290, .int .i64 t291, .int .i64 t292, .int .i64 t293, .slice Ao38 t294.length co38, .slice Ao39 t297.length co39]] (by rfl) rfl rfl (by (try simp only [List.map_toArray, List.map_cons, List.map_nil]); first | done | rfl | (simp only [List.length_drop, List.length_take]; rfl)) ?_
    with_reducible refine (spec_Suits.calls k t280 t281 t282 _ _ t283 _ _ t286 t289 t290 t291 t292 t293 _ _ t294 _ _ t297 t300 _ ?side1 ?side2 ?side3 ?side4 ?side5 ?side6 ?side7 ?side8 A21.out).mono ?_
    (case side1 => exact cR HO285.out)
    (case side2 => exact (Kd.R_reads' HO285.out).2.1)
    (case side3 => exact cR HO288.out)
    (case side4 => exact (Kd.R_reads' HO288.out).2.1)
    (case side5 => exact cR HO296.out)
    (case side6 => exact (Kd.R_reads' HO296.out).2.1)
    (case side7 => exact cR HO299.out)
    (case side8 => exact (Kd.R_reads' HO299.out).2.1)
    rintro e w40 ⟨rfl, hb⟩
    refine ⟨_, rfl, ?_⟩
    have n0_ := aM (rB HO285.out hb)
    have n1_ := aM (rB HO288.out hb)
    have n2_ := aM (rB HO296.out hb)
    have n3_ := aM (rB HO299.out hb)
    have n4_ := aM (kB BK276.out hb)
    have n5_ := aM (kB BK277.out hb)
    have n6_ := aM (below_step (bS HB.out) hb)
    clear HO285
    clear HO288
    clear HO296
    clear HO299
    clear BK276
    clear BK277
    clear HB
    have HO285 := n0_
    have HO288 := n1_
    have HO296 := n2_
    have HO299 := n3_
    have BK276 := n4_
    have BK277 := n5_
    have HB := n6_
    clear n0_ n1_ n2_ n3_ n4_ n5_ n6_
    (try clear hb)
    (try clear hb2)
    (try clear hk)
    (try clear hi)
    refine hK.out _ _ ⟨(blk_cell BK276.out 0).trans rfl, (blk_cell BK276.out 1).trans rfl, (blk_cell BK276.out 2).trans rfl, (blk_cell BK276.out 3).trans rfl, (blk_cell BK276.out 4).trans rfl, (blk_cell BK276.out 5).trans rfl, (blk_cell BK277.out 0).trans rfl, (blk_cell BK277.out 1).trans rfl, (blk_cell BK277.out 2).trans rfl, (blk_cell BK277.out 3).trans rfl, (blk_cell BK277.out 4).trans rfl, (blk_cell BK277.out 5).trans rfl⟩ (fun hHeld => ?_)
    clear hK K
    refine norm_ (a' := ?_) ?_ ?_
    rotate_left
    ·show Act.put _ (some 24) _ = _
     simp only [Act.put, List.setIfInBounds_toArray, List.set_cons_zero, List.set_cons_succ, i64_w, i32_w]
     rfl
    refine pure_ (i := 5) (N := some 6) (v := ?_) (a' := ?_) #[true, true, true, true, true, true] rfl rfl (by kernel_rfl) (fun _ _ _ h => h) (Or.inl ⟨by rfl, ?_⟩) ?_ ?_
    rotate_left
    ·intro w'
     go_simp
     with_reducible rfl
    rotate_left
    ·simp only [Act.put, List.setIfInBounds_toArray, List.set_cons_zero, List.set_cons_succ, i64_w, i32_w]
     rfl
    refine done_ (by kernel_rfl) ?_
    obtain ⟨hcz41_0, hfz41_0, hcz41_1, hfz41_1, hcz41_2, hfz41_2, hcz41_3, hfz41_3, hcz41_4, hfz41_4, hcz41_5, hfz41_5⟩ := bk6 BK276.out
    try go_wp2_with (first | ((with_reducible refine gate_callee (f := 15) rfl ?_); refine gL (some 26) rfl rfl Try.func15 (by kernel_rfl) rfl #[.agg #[.int .i64 a0_0, .int .i64 a0_1, .int .i64 a0_2, .slice A0_3 l0_3.length c0_3, .slice A0_4 l0_4.length c0_4, .int .i64 a0_5]] rfl ?_; (with_reducible refine (laws_toReq.calls k a0_0 a0_1 a0_2 _ _ l0_3 _ _ l0_4 a0_5 t301 t302 t303 t304 t307 t310 _ ?side1 ?side2 ?side3 ?side4 A22.out).mono ?_); (case side1 => exact cB HR0_3.out HB.out); (case side2 => exact HC0_3.out); (case side3 => exact cB HR0_4.out HB.out); (case side4 => exact HC0_4.out); rintro e w42 ⟨v305, v308, rfl, ho0, ho1, hb⟩; refine ⟨_, rfl, ?_⟩; have _ := aM (Kd.R_elder' (rA HO285.out) (Kd.R_base ho0) hb); have _ := aM (Kd.R_elder' (rA HO288.out) (Kd.R_base ho1) hb); have _ := aM (Kd.R_elder' (rA HO296.out) (Kd.R_base ho0) hb); have _ := aM (Kd.R_elder' (rA HO299.out) (Kd.R_base ho1) hb); have _ := aM (Kd.R_lower (Kd.R_new' (Kd.R_new' ho0 (Kd.R_lt (rA HO285.out))) (Kd.R_lt (rA HO296.out))) (below_size (bS HB.out))); have _ := aM (Kd.R_lower (Kd.R_new' (Kd.R_new' ho1 (Kd.R_lt (rA HO288.out))) (Kd.R_lt (rA HO299.out))) (below_size (bS HB.out))); have _ := aM (kB BK276.out hb); have _ := aM (kB BK277.out hb); have _ := aM (below_step (bS HB.out) hb); clear HO285 HO288 HO296 HO299 BK276 BK277 HB; rename_i HO285 HO288 HO296 HO299 HO306 HO309 BK276 BK277 HB; (try clear hb); (try clear ho0); (try clear ho1)) | ((with_reducible refine gate_dst (N := 7) rfl ?_); refine box_event ?hg (N := 7) ?hd (cs := #[.int .i64 0, .int .i64 0, .int .i64 0, .slice none 0 0, .slice none 0 0, .int .i64 0]) (t := 36) ?hr ?_; (case hd => rfl); (case hg => rfl); (case hr => first | (go_simp; done) | (go_simp; rfl)); intro gb311 hg w43 hbox hb; have _ := aM (rB HO285.out hb); have _ := aM (rB HO288.out hb); have _ := aM (rB HO296.out hb); have _ := aM (rB HO299.out hb); have _ := aM (rB HO306.out hb); have _ := aM (rB HO309.out hb); have _ := aM (kB BK276.out hb); have _ := aM (kB BK277.out hb); have _ := aM (below_step (bS HB.out) hb); have _ := aM (hbox); have _ := aM (leG hg (bS HB.out)); have _ := aM (leG hg (bS HB.out)); have _ := aM (neL hg (kA BK276.out)); have _ := aM (neG hg (kA BK276.out)); have _ := aM (neL hg (kA BK277.out)); have _ := aM (neG hg (kA BK277.out)); clear HO285 HO288 HO296 HO299 HO306 HO309 BK276 BK277 HB; rename_i HO285 HO288 HO296 HO299 HO306 HO309 BK276 BK277 HB BK311 GW311 GE311 NB276_311 NB311_276 NB277_311 NB311_277; clear hb hbox hg; have hnb44 := NB311_276.out; have hnc44 := NB276_311.out; have hnb45 := NB311_277.out; have hnc45 := NB277_311.out; obtain ⟨hcz46_0, hfz46_0, hcz46_1, hfz46_1, hcz46_2, hfz46_2, hcz46_3, hfz46_3, hcz46_4, hfz46_4, hcz46_5, hfz46_5⟩ := bk6 BK311.out; obtain ⟨Ao47, co47, eo47⟩ := Kd.R_slice HO306.out; subst eo47; obtain ⟨Ao48, co48, eo48⟩ := Kd.R_slice HO309.out; subst eo48; obtain ⟨hcz49_0, hfz49_0, hcz49_1, hfz49_1, hcz49_2, hfz49_2, hcz49_3, hfz49_3, hcz49_4, hfz49_4, hcz49_5, hfz49_5⟩ := bk6 BK277.out) | ((with_reducible refine gate_callee (f := 10) rfl ?_); refine gL (some 28) rfl rfl Try.func10 (by kernel_rfl) rfl #[.agg #[.int .i64 a1_0, .int .i64 a1_1, .int .i64 a1_2, .int .i64 a1_3, .slice A1_4 l1_4.length c1_4, .slice A1_5 l1_5.length c1_5]] rfl ?_; (with_reducible refine (laws_toResp.calls k a1_0 a1_1 a1_2 a1_3 _ _ l1_4 _ _ l1_5 t312 t313 t314 t315 t316 t319 _ ?side1 ?side2 ?side3 ?side4 A23.out).mono ?_); (case side1 => exact Kd.C_below HR1_4.out (bS HB.out)); (case side2 => exact HC1_4.out); (case side3 => exact Kd.C_below HR1_5.out (bS HB.out)); (case side4 => exact HC1_5.out); rintro e w50 ⟨v317, v320, rfl, ho0, ho1, hb⟩; refine ⟨_, rfl, ?_⟩; have _ := aM (Kd.R_elder' (rF6 HO285.out BK311.out) (Kd.R_base ho0) hb); have _ := aM (Kd.R_elder' (rF6 HO288.out BK311.out) (Kd.R_base ho1) hb); have _ := aM (Kd.R_elder' (rF6 HO296.out BK311.out) (Kd.R_base ho0) hb); have _ := aM (Kd.R_elder' (rF6 HO299.out BK311.out) (Kd.R_base ho1) hb); have _ := aM (Kd.R_elder' (rF6 HO306.out BK311.out) (Kd.R_base ho0) hb); have _ := aM (Kd.R_elder' (rF6 HO309.out BK311.out) (Kd.R_base ho1) hb); have _ := aM (Kd.R_lower (Kd.R_new' (Kd.R_new' (Kd.R_new' ho0 (Kd.R_lt (rF6 HO285.out BK311.out))) (Kd.R_lt (rF6 HO296.out BK311.out))) (Kd.R_lt (rF6 HO306.out BK311.out))) (below_size (bS HB.out))); have _ := aM (Kd.R_lower (Kd.R_new' (Kd.R_new' (Kd.R_new' ho1 (Kd.R_lt (rF6 HO288.out BK311.out))) (Kd.R_lt (rF6 HO299.out BK311.out))) (Kd.R_lt (rF6 HO309.out BK311.out))) (below_size (bS HB.out))); have _ := aM (blk_below (kF6 BK276.out NB276_311.out) hb); have _ := aM (blk_below (kF6 BK277.out NB277_311.out) hb); have _ := aM (blk_below (kP6 BK311.out) hb); have _ := aM (below_step (bS HB.out) hb); clear HO285 HO288 HO296 HO299 HO306 HO309 BK276 BK277 BK311 HB; rename_i HO285 HO288 HO296 HO299 HO306 HO309 HO318 HO321 BK276 BK277 BK311 HB; (try clear hb); (try clear ho0); (try clear ho1)) | ((with_reducible refine gate_dst (N := 8) rfl ?_); refine box_event ?hg (N := 8) ?hd (cs := #[.int .i64 0, .int .i64 0, .int .i64 0, .int .i64 0, .slice none 0 0, .slice none 0 0]) (t := 28) ?hr ?_; (case hd => rfl); (case hg => rfl); (case hr => first | (go_simp; done) | (go_simp; rfl)); intro gb322 hg w51 hbox hb; have _ := aM (rB HO285.out hb); have _ := aM (rB HO288.out hb); have _ := aM (rB HO296.out hb); have _ := aM (rB HO299.out hb); have _ := aM (rB HO306.out hb); have _ := aM (rB HO309.out hb); have _ := aM (rB HO318.out hb); have _ := aM (rB HO321.out hb); have _ := aM (kB BK276.out hb); have _ := aM (kB BK277.out hb); have _ := aM (kB BK311.out hb); have _ := aM (below_step (bS HB.out) hb); have _ := aM (hbox); have _ := aM (leG hg (bS HB.out)); have _ := aM (leG hg (bS HB.out)); have _ := aM (neL hg (kA BK276.out)); have _ := aM (neG hg (kA BK276.out)); have _ := aM (neL hg (kA BK277.out)); have _ := aM (neG hg (kA BK277.out)); have _ := aM (neL hg (kA BK311.out)); have _ := aM (neG hg (kA BK311.out)); clear HO285 HO288 HO296 HO299 HO306 HO309 HO318 HO321 BK276 BK277 BK311 HB; rename_i HO285 HO288 HO296 HO299 HO306 HO309 HO318 HO321 BK276 BK277 BK311 HB BK322 GW322 GE322 NB276_322 NB322_276 NB277_322 NB322_277 NB311_322 NB322_311; clear hb hbox hg; have hnb52 := NB322_276.out; have hnc52 := NB276_322.out; have hnb53 := NB322_277.out; have hnc53 := NB277_322.out; have hnb54 := NB322_311.out; have hnc54 := NB311_322.out; obtain ⟨hcz55_0, hfz55_0, hcz55_1, hfz55_1, hcz55_2, hfz55_2, hcz55_3, hfz55_3, hcz55_4, hfz55_4, hcz55_5, hfz55_5⟩ := bk6 BK322.out; obtain ⟨Ao56, co56, eo56⟩ := Kd.R_slice HO318.out; subst eo56; obtain ⟨Ao57, co57, eo57⟩ := Kd.R_slice HO321.out; subst eo57; obtain ⟨hcz58_0, hfz58_0, hcz58_1, hfz58_1, hcz58_2, hfz58_2, hcz58_3, hfz58_3, hcz58_4, hfz58_4, hcz58_5, hfz58_5⟩ := bk6 BK311.out) | ((with_reducible refine gate_callee (f := 24) rfl ?_); refine gL (some 31) rfl rfl Try.func24 (by kernel_rfl) rfl #[.agg #[.int .i64 t301, .int .i64 t302, .int .i64 t303, .slice Ao47 t304.length co47, .slice Ao48 t307.length co48, .int .i64 t310], .agg #[.int .i64 t312, .int .i64 t313, .int .i64 t314, .int .i64 t315, .slice Ao56 t316.length co56, .slice Ao57 t319.length co57]] rfl ?_; (with_reducible refine (impl_Suits.calls k t301 t302 t303 _ _ t304 _ _ t307 t310 t312 t313 t314 t315 _ _ t316 _ _ t319 t323 _ ?side1 ?side2 ?side3 ?side4 ?side5 ?side6 ?side7 ?side8 A24.out).mono ?_); (case side1 => exact (Kd.R_reads' (rF6 HO306.out BK322.out)).2.2); (case side2 => exact (Kd.R_reads' HO306.out).2.1); (case side3 => exact (Kd.R_reads' (rF6 HO309.out BK322.out)).2.2); (case side4 => exact (Kd.R_reads' HO309.out).2.1); (case side5 => exact (Kd.R_reads' (rF6 HO318.out BK322.out)).2.2); (case side6 => exact (Kd.R_reads' HO318.out).2.1); (case side7 => exact (Kd.R_reads' (rF6 HO321.out BK322.out)).2.2); (case side8 => exact (Kd.R_reads' HO321.out).2.1); rintro e w59 ⟨rfl, hb⟩; refine ⟨_, rfl, ?_⟩; have _ := aM (Kd.R_below (rF6 HO285.out BK322.out) hb); have _ := aM (Kd.R_below (rF6 HO288.out BK322.out) hb); have _ := aM (Kd.R_below (rF6 HO296.out BK322.out) hb); have _ := aM (Kd.R_below (rF6 HO299.out BK322.out) hb); have _ := aM (Kd.R_below (rF6 HO306.out BK322.out) hb); have _ := aM (Kd.R_below (rF6 HO309.out BK322.out) hb); have _ := aM (Kd.R_below (rF6 HO318.out BK322.out) hb); have _ := aM (Kd.R_below (rF6 HO321.out BK322.out) hb); have _ := aM (blk_below (kF6 BK276.out NB276_322.out) hb); have _ := aM (blk_below (kF6 BK277.out NB277_322.out) hb); have _ := aM (blk_below (kF6 BK311.out NB311_322.out) hb); have _ := aM (blk_below (kP6 BK322.out) hb); have _ := aM (below_step (bS HB.out) hb); clear HO285 HO288 HO296 HO299 HO306 HO309 HO318 HO321 BK276 BK277 BK311 BK322 HB; rename_i HO285 HO288 HO296 HO299 HO306 HO309 HO318 HO321 BK276 BK277 BK311 BK322 HB; (try clear hb)))
    go_ret
    exact ⟨by first | rfl | (simp [errW_none, errW_some] <;> rfl) | (simp [*, errW_none, errW_some] <;> rfl), bS HB.out⟩
   ·rw [if_neg c25] at H
    have c25b0 : (t323 != t300) = false := by simpa using c25
    (try (have c25b1 : decide (t323 = t300) = true := by simpa using c25))
    (try (have c25b2 : (t323 == t300) = true := by simpa using c25))
    clear c25
    replace H := Option.bind_eq_some_iff.mp H
    obtain ⟨⟨t324, t325, t326, t327, t330, t333⟩, A600, H⟩ := H
    replace H : ((laws_eqReq.f k t301 t302 t303 t304 t307 t310 t324 t325 t326 t327 t330 t333).bind fun t334 => (if t334 = true then ((laws_toResp.f k a1_0 a1_1 a1_2 a1_3 l1_4 l1_5).bind fun bt335 => ((laws_eqResp.f k t312 t313 t314 t315 t316 t319 bt335.1 bt335.2.1 bt335.2.2.1 bt335.2.2.2.1 bt335.2.2.2.2.1 bt335.2.2.2.2.2).bind fun t345 => (if t345 = true then (some true) else (some false)))) else (some false))) = some r := H
    have A60 := aM A600
    clear A600
    replace H := Option.bind_eq_some_iff.mp H
    obtain ⟨t334, A610, H⟩ := H
    replace H : (if t334 = true then ((laws_toResp.f k a1_0 a1_1 a1_2 a1_3 l1_4 l1_5).bind fun bt335 => ((laws_eqResp.f k t312 t313 t314 t315 t316 t319 bt335.1 bt335.2.1 bt335.2.2.1 bt335.2.2.2.1 bt335.2.2.2.2.1 bt335.2.2.2.2.2).bind fun t345 => (if t345 = true then (some true) else (some false)))) else (some false)) = some r := H
    have A61 := aM A610
    clear A610
    by_cases c62 : t334 = true
    ·subst c62
     have H1 : ((laws_toResp.f k a1_0 a1_1 a1_2 a1_3 l1_4 l1_5).bind fun bt335 => ((laws_eqResp.f k t312 t313 t314 t315 t316 t319 bt335.1 bt335.2.1 bt335.2.2.1 bt335.2.2.2.1 bt335.2.2.2.2.1 bt335.2.2.2.2.2).bind fun t345 => (if t345 = true then (some true) else (some false)))) = some r := by rw [if_pos rfl] at H; exact H
     clear H
     have H := H1
     clear H1
     replace H := Option.bind_eq_some_iff.mp H
     obtain ⟨⟨t335, t336, t337, t338, t339, t342⟩, A630, H⟩ := H
     replace H : ((laws_eqResp.f k t312 t313 t314 t315 t316 t319 t335 t336 t337 t338 t339 t342).bind fun t345 => (if t345 = true then (some true) else (some false))) = some r := H
     have A63 := aM A630
     clear A630
     replace H := Option.bind_eq_some_iff.mp H
     obtain ⟨t345, A640, H⟩ := H
     replace H : (if t345 = true then (some true) else (some false)) = some r := H
     have A64 := aM A640
     clear A640
     by_cases c65 : t345 = true
     ·subst c65
      have H1 : (some true) = some r := by rw [if_pos rfl] at H; exact H
      clear H
      have H := H1
      clear H1
      obtain rfl := Option.some.inj H
      go_enter Try.func6, Try.ntmps6
      try go_wp2_with (first | ((with_reducible refine gate_dst (N := 2) rfl ?_); refine box_event ?hg (N := 2) ?hd (cs := #[.int .i64 a0_0, .int .i64 a0_1, .int .i64 a0_2, .slice A0_3 l0_3.length c0_3, .slice A0_4 l0_4.length c0_4, .int .i64 a0_5]) (t := 33) ?hr ?_; (case hd => rfl); (case hg => rfl); (case hr => first | (go_simp; done) | (go_simp; rfl)); intro gb276 hg w66 hbox hb; have _ := aM (below_step (bS HB.out) hb); have _ := aM (hbox); have _ := aM (leG hg (bS HB.out)); have _ := aM (leG hg (bS HB.out)); clear HB; rename_i HB BK276 GW276 GE276; clear hb hbox hg) | ((with_reducible refine gate_dst (N := 3) rfl ?_); refine box_event ?hg (N := 3) ?hd (cs := #[.int .i64 a1_0, .int .i64 a1_1, .int .i64 a1_2, .int .i64 a1_3, .slice A1_4 l1_4.length c1_4, .slice A1_5 l1_5.length c1_5]) (t := 25) ?hr ?_; (case hd => rfl); (case hg => rfl); (case hr => first | (go_simp; done) | (go_simp; rfl)); intro gb277 hg w67 hbox hb; have _ := aM (kB BK276.out hb); have _ := aM (below_step (bS HB.out) hb); have _ := aM (hbox); have _ := aM (leG hg (bS HB.out)); have _ := aM (leG hg (bS HB.out)); have _ := aM (neL hg (kA BK276.out)); have _ := aM (neG hg (kA BK276.out)); clear BK276 HB; rename_i BK276 HB BK277 GW277 GE277 NB276_277 NB277_276; clear hb hbox hg; have hnb68 := NB276_277.out; have hnc68 := NB277_276.out; obtain ⟨hcz69_0, hfz69_0, hcz69_1, hfz69_1, hcz69_2, hfz69_2, hcz69_3, hfz69_3, hcz69_4, hfz69_4, hcz69_5, hfz69_5⟩ := bk6 BK276.out) | ((with_reducible refine gate_callee (f := 13) rfl ?_); refine gL (some 12) rfl rfl Try.func13 (by kernel_rfl) rfl #[.agg #[.int .i64 a0_0, .int .i64 a0_1, .int .i64 a0_2, .slice A0_3 l0_3.length c0_3, .slice A0_4 l0_4.length c0_4, .int .i64 a0_5], .int .i64 1048576] rfl ?_; (with_reducible refine (laws_szReq.calls a0_0 a0_1 a0_2 _ _ l0_3 _ _ l0_4 a0_5 1048576 t278 _ ?side1 ?side2 ?side3 ?side4 A3.out).mono ?_); (case side1 => exact cB HR0_3.out HB.out); (case side2 => exact HC0_3.out); (case side3 => exact cB HR0_4.out HB.out); (case side4 => exact HC0_4.out); rintro e w70 ⟨rfl, hb⟩; refine ⟨_, rfl, ?_⟩; have _ := aM (kB BK276.out hb); have _ := aM (kB BK277.out hb); have _ := aM (below_step (bS HB.out) hb); clear BK276 BK277 HB; rename_i BK276 BK277 HB; (try clear hb); obtain ⟨hcz71_0, hfz71_0, hcz71_1, hfz71_1, hcz71_2, hfz71_2, hcz71_3, hfz71_3, hcz71_4, hfz71_4, hcz71_5, hfz71_5⟩ := bk6 BK277.out) | ((with_reducible refine gate_callee (f := 8) rfl ?_); refine gL (some 17) rfl rfl Try.func8 (by kernel_rfl) rfl #[.agg #[.int .i64 a1_0, .int .i64 a1_1, .int .i64 a1_2, .int .i64 a1_3, .slice A1_4 l1_4.length c1_4, .slice A1_5 l1_5.length c1_5], .int .i64 t278] rfl ?_; (with_reducible refine (laws_szResp.calls a1_0 a1_1 a1_2 a1_3 _ _ l1_4 _ _ l1_5 t278 t279 _ ?side1 ?side2 ?side3 ?side4 A10.out).mono ?_); (case side1 => exact cB HR1_4.out HB.out); (case side2 => exact HC1_4.out); (case side3 => exact cB HR1_5.out HB.out); (case side4 => exact HC1_5.out); rintro e w72 ⟨rfl, hb⟩; refine ⟨_, rfl, ?_⟩; have _ := aM (kB BK276.out hb); have _ := aM (kB BK277.out hb); have _ := aM (below_step (bS HB.out) hb); clear BK276 BK277 HB; rename_i BK276 BK277 HB; (try clear hb)))
      have n0_ := aM (blk_drew BK276.out)
      have n1_ := aM (blk_drew BK277.out)
      have n2_ := aM (below_drew1 HB.out)
      clear BK276
      clear BK277
      clear HB
      have BK276 := n0_
      have BK277 := n1_
      have HB := n2_
      clear n0_ n1_ n2_
      refine start_ (n := 6) (S := fun w' => w'.cell? ⟨gb276, 0, none⟩ = some (.int .i64 a0_0) ∧ w'.cell? ⟨gb276, 1, none⟩ = some (.int .i64 a0_1) ∧ w'.cell? ⟨gb276, 2, none⟩ = some (.int .i64 a0_2) ∧ w'.cell? ⟨gb276, 3, none⟩ = some (.slice A0_3 l0_3.length c0_3) ∧ w'.cell? ⟨gb276, 4, none⟩ = some (.slice A0_4 l0_4.length c0_4) ∧ w'.cell? ⟨gb276, 5, none⟩ = some (.int .i64 a0_5) ∧ w'.cell? ⟨gb277, 0, none⟩ = some (.int .i64 a1_0) ∧ w'.cell? ⟨gb277, 1, none⟩ = some (.int .i64 a1_1) ∧ w'.cell? ⟨gb277, 2, none⟩ = some (.int .i64 a1_2) ∧ w'.cell? ⟨gb277, 3, none⟩ = some (.int .i64 a1_3) ∧ w'.cell? ⟨gb277, 4, none⟩ = some (.slice A1_4 l1_4.length c1_4) ∧ w'.cell? ⟨gb277, 5, none⟩ = some (.slice A1_5 l1_5.length c1_5)) (ds := []) #[false, false, false, false, false, false] (by kernel_rfl) rfl rfl ⟨(blk_cell BK276.out 0).trans rfl, (blk_cell BK276.out 1).trans rfl, (blk_cell BK276.out 2).trans rfl, (blk_cell BK276.out 3).trans rfl, (blk_cell BK276.out 4).trans rfl, (blk_cell BK276.out 5).trans rfl, (blk_cell BK277.out 0).trans rfl, (blk_cell BK277.out 1).trans rfl, (blk_cell BK277.out 2).trans rfl, (blk_cell BK277.out 3).trans rfl, (blk_cell BK277.out 4).trans rfl, (blk_cell BK277.out 5).trans rfl⟩ (fun hHeld => ?_)
      generalize w72.drew = w73 at BK276 BK277 HB hHeld ⊢
      refine take_ (i := 0) (N := some 20) (v := ?_) (a' := ?_) #[true, false, false, false, false, false] rfl rfl (by kernel_rfl) (fun _ _ _ h => h) (Or.inl ⟨by rfl, ?_⟩) hHeld ?_ ?_
      rotate_left
      ·rintro w' ⟨s0, s1, s2, s3, s4, s5, s6, s7, s8, s9, s10, s11⟩
       go_simp
       with_reducible rfl
      rotate_left
      ·simp only [Act.put, List.setIfInBounds_toArray, List.set_cons_zero, List.set_cons_succ, i64_w, i32_w]
       rfl
      refine take_ (i := 2) (N := some 22) (v := ?_) (a' := ?_) #[true, false, true, false, false, false] rfl rfl (by kernel_rfl) (fun _ _ _ h => h) (Or.inl ⟨by rfl, ?_⟩) hHeld ?_ ?_
      rotate_left
      ·rintro w' ⟨s0, s1, s2, s3, s4, s5, s6, s7, s8, s9, s10, s11⟩
       go_simp
       with_reducible rfl
      rotate_left
      ·simp only [Act.put, List.setIfInBounds_toArray, List.set_cons_zero, List.set_cons_succ, i64_w, i32_w]
       rfl
      refine one_ (i := 1) (N := some 21) #[true, true, true, false, false, false] rfl rfl (by kernel_rfl) (by decide) (fun K hK => ?_)
      refine goes_ Try.func15 (by kernel_rfl) rfl #[.agg #[.int .i64 a0_0, .int .i64 a0_1, .int .i64 a0_2, .slice A0_3 l0_3.length c0_3, .slice A0_4 l0_4.length c0_4, .int .i64 a0_5]] (by rfl) rfl rfl (by (try simp only [List.map_toArray, List.map_cons, List.map_nil]); first | done | rfl | (simp only [List.length_drop, List.length_take]; rfl)) ?_
      with_reducible refine (laws_toReq.calls k a0_0 a0_1 a0_2 _ _ l0_3 _ _ l0_4 a0_5 t280 t281 t282 t283 t286 t289 _ ?side1 ?side2 ?side3 ?side4 A19.out).mono ?_
      (case side1 => exact cB HR0_3.out HB.out)
      (case side2 => exact HC0_3.out)
      (case side3 => exact cB HR0_4.out HB.out)
      (case side4 => exact HC0_4.out)
      rintro e w74 ⟨v284, v287, rfl, ho0, ho1, hb⟩
      refine ⟨_, rfl, ?_⟩
      have n0_ := aM (Kd.R_lower ho0 (below_size (bS HB.out)))
      have n1_ := aM (Kd.R_lower ho1 (below_size (bS HB.out)))
      have n2_ := aM (kB BK276.out hb)
      have n3_ := aM (kB BK277.out hb)
      have n4_ := aM (below_step (bS HB.out) hb)
      clear BK276
      clear BK277
      clear HB
      have HO285 := n0_
      have HO288 := n1_
      have BK276 := n2_
      have BK277 := n3_
      have HB := n4_
      clear n0_ n1_ n2_ n3_ n4_
      (try clear hb)
      (try clear hb2)
      (try clear hk)
      (try clear hi)
      (try clear ho0)
      (try clear ho1)
      refine hK.out _ _ ⟨(blk_cell BK276.out 0).trans rfl, (blk_cell BK276.out 1).trans rfl, (blk_cell BK276.out 2).trans rfl, (blk_cell BK276.out 3).trans rfl, (blk_cell BK276.out 4).trans rfl, (blk_cell BK276.out 5).trans rfl, (blk_cell BK277.out 0).trans rfl, (blk_cell BK277.out 1).trans rfl, (blk_cell BK277.out 2).trans rfl, (blk_cell BK277.out 3).trans rfl, (blk_cell BK277.out 4).trans rfl, (blk_cell BK277.out 5).trans rfl⟩ (fun hHeld => ?_)
      clear hK K
      refine norm_ (a' := ?_) ?_ ?_
      rotate_left
      ·show Act.put _ (some 21) _ = _
       simp only [Act.put, List.setIfInBounds_toArray, List.set_cons_zero, List.set_cons_succ, i64_w, i32_w]
       rfl
      refine one_ (i := 3) (N := some 23) #[true, true, true, true, false, false] rfl rfl (by kernel_rfl) (by decide) (fun K hK => ?_)
      refine goes_ Try.func10 (by kernel_rfl) rfl #[.agg #[.int .i64 a1_0, .int .i64 a1_1, .int .i64 a1_2, .int .i64 a1_3, .slice A1_4 l1_4.length c1_4, .slice A1_5 l1_5.length c1_5]] (by rfl) rfl rfl (by (try simp only [List.map_toArray, List.map_cons, List.map_nil]); first | done | rfl | (simp only [List.length_drop, List.length_take]; rfl)) ?_
      with_reducible refine (laws_toResp.calls k a1_0 a1_1 a1_2 a1_3 _ _ l1_4 _ _ l1_5 t290 t291 t292 t293 t294 t297 _ ?side1 ?side2 ?side3 ?side4 A20.out).mono ?_
      (case side1 => exact cB HR1_4.out HB.out)
      (case side2 => exact HC1_4.out)
      (case side3 => exact cB HR1_5.out HB.out)
      (case side4 => exact HC1_5.out)
      rintro e w75 ⟨v295, v298, rfl, ho0, ho1, hb⟩
      refine ⟨_, rfl, ?_⟩
      have n0_ := aM (Kd.R_elder' (rA HO285.out) (Kd.R_base ho0) hb)
      have n1_ := aM (Kd.R_elder' (rA HO288.out) (Kd.R_base ho1) hb)
      have n2_ := aM (Kd.R_lower (Kd.R_new' ho0 (Kd.R_lt (rA HO285.out))) (below_size (bS HB.out)))
      have n3_ := aM (Kd.R_lower (Kd.R_new' ho1 (Kd.R_lt (rA HO288.out))) (below_size (bS HB.out)))
      have n4_ := aM (kB BK276.out hb)
      have n5_ := aM (kB BK277.out hb)
      have n6_ := aM (below_step (bS HB.out) hb)
      clear HO285
      clear HO288
      clear BK276
      clear BK277
      clear HB
      have HO285 := n0_
      have HO288 := n1_
      have HO296 := n2_
      have HO299 := n3_
      have BK276 := n4_
      have BK277 := n5_
      have HB := n6_
      clear n0_ n1_ n2_ n3_ n4_ n5_ n6_
      (try clear hb)
      (try clear hb2)
      (try clear hk)
      (try clear hi)
      (try clear ho0)
      (try clear ho1)
      obtain ⟨Ao76, co76, eo76⟩ := Kd.R_slice HO285.out
      (first | subst eo76 | (injection eo76 with f1_ f2_ f3_; have f4_ := f1_.symm; have f5_ := f3_.symm; clear f1_ f2_ f3_; subst f4_; subst f5_))
      obtain ⟨Ao77, co77, eo77⟩ := Kd.R_slice HO288.out
      (first | subst eo77 | (injection eo77 with f1_ f2_ f3_; have f4_ := f1_.symm; have f5_ := f3_.symm; clear f1_ f2_ f3_; subst f4_; subst f5_))
      obtain ⟨Ao78, co78, eo78⟩ := Kd.R_slice HO296.out
      (first | subst eo78 | (injection eo78 with f1_ f2_ f3_; have f4_ := f1_.symm; have f5_ := f3_.symm; clear f1_ f2_ f3_; subst f4_; subst f5_))
      obtain ⟨Ao79, co79, eo79⟩ := Kd.R_slice HO299.out
      (first | subst eo79 | (injection eo79 with f1_ f2_ f3_; have f4_ := f1_.symm; have f5_ := f3_.symm; clear f1_ f2_ f3_; subst f4_; subst f5_))
      refine hK.out _ _ ⟨(blk_cell BK276.out 0).trans rfl, (blk_cell BK276.out 1).trans rfl, (blk_cell BK276.out 2).trans rfl, (blk_cell BK276.out 3).trans rfl, (blk_cell BK276.out 4).trans rfl, (blk_cell BK276.out 5).trans rfl, (blk_cell BK277.out 0).trans rfl, (blk_cell BK277.out 1).trans rfl, (blk_cell BK277.out 2).trans rfl, (blk_cell BK277.out 3).trans rfl, (blk_cell BK277.out 4).trans rfl, (blk_cell BK277.out 5).trans rfl⟩ (fun hHeld => ?_)
      clear hK K
      refine norm_ (a' := ?_) ?_ ?_
      rotate_left
      ·show Act.put _ (some 23) _ = _
       simp only [Act.put, List.setIfInBounds_toArray, List.set_cons_zero, List.set_cons_succ, i64_w, i32_w]
       rfl
      refine one_ (i := 4) (N := some 24) #[true, true, true, true, true, false] rfl rfl (by kernel_rfl) (by decide) (fun K hK => ?_)
      refine goes_ Try.func23 (by kernel_rfl) rfl #[.agg #[.int .i64 t280, .int .i64 t281, .int .i64 t282, .slice Ao76 t283.length co76, .slice Ao77 t286.length co77, .int .i64 t289], .agg #[.int .i64 t290, .int .i64 t291, .int .i64 t292, .int .i64 t293, .slice Ao78 t294.length co78, .slice Ao79 t297.length co79]] (by rfl) rfl rfl (by (try simp only [List.map_toArray, List.map_cons, List.map_nil]); first | done | rfl | (simp only [List.length_drop, List.length_take]; rfl)) ?_
      with_reducible refine (spec_Suits.calls k t280 t281 t282 _ _ t283 _ _ t286 t289 t290 t291 t292 t293 _ _ t294 _ _ t297 t300 _ ?side1 ?side2 ?side3 ?side4 ?side5 ?side6 ?side7 ?side8 A21.out).mono ?_
      (case side1 => exact cR HO285.out)
      (case side2 => exact (Kd.R_reads' HO285.out).2.1)
      (case side3 => exact cR HO288.out)
      (case side4 => exact (Kd.R_reads' HO288.out).2.1)
      (case side5 => exact cR HO296.out)
      (case side6 => exact (Kd.R_reads' HO296.out).2.1)
      (case side7 => exact cR HO299.out)
      (case side8 => exact (Kd.R_reads' HO299.out).2.1)
      rintro e w80 ⟨rfl, hb⟩
      refine ⟨_, rfl, ?_⟩
      have n0_ := aM (rB HO285.out hb)
      have n1_ := aM (rB HO288.out hb)
      have n2_ := aM (rB HO296.out hb)
      have n3_ := aM (rB HO299.out hb)
      have n4_ := aM (kB BK276.out hb)
      have n5_ := aM (kB BK277.out hb)
      have n6_ := aM (below_step (bS HB.out) hb)
      clear HO285
      clear HO288
      clear HO296
      clear HO299
      clear BK276
      clear BK277
      clear HB
      have HO285 := n0_
      have HO288 := n1_
      have HO296 := n2_
      have HO299 := n3_
      have BK276 := n4_
      have BK277 := n5_
      have HB := n6_
      clear n0_ n1_ n2_ n3_ n4_ n5_ n6_
      (try clear hb)
      (try clear hb2)
      (try clear hk)
      (try clear hi)
      refine hK.out _ _ ⟨(blk_cell BK276.out 0).trans rfl, (blk_cell BK276.out 1).trans rfl, (blk_cell BK276.out 2).trans rfl, (blk_cell BK276.out 3).trans rfl, (blk_cell BK276.out 4).trans rfl, (blk_cell BK276.out 5).trans rfl, (blk_cell BK277.out 0).trans rfl, (blk_cell BK277.out 1).trans rfl, (blk_cell BK277.out 2).trans rfl, (blk_cell BK277.out 3).trans rfl, (blk_cell BK277.out 4).trans rfl, (blk_cell BK277.out 5).trans rfl⟩ (fun hHeld => ?_)
      clear hK K
      refine norm_ (a' := ?_) ?_ ?_
      rotate_left
      ·show Act.put _ (some 24) _ = _
       simp only [Act.put, List.setIfInBounds_toArray, List.set_cons_zero, List.set_cons_succ, i64_w, i32_w]
       rfl
      refine pure_ (i := 5) (N := some 6) (v := ?_) (a' := ?_) #[true, true, true, true, true, true] rfl rfl (by kernel_rfl) (fun _ _ _ h => h) (Or.inl ⟨by rfl, ?_⟩) ?_ ?_
      rotate_left
      ·intro w'
       go_simp
       with_reducible rfl
      rotate_left
      ·simp only [Act.put, List.setIfInBounds_toArray, List.set_cons_zero, List.set_cons_succ, i64_w, i32_w]
       rfl
      refine done_ (by kernel_rfl) ?_
      obtain ⟨hcz81_0, hfz81_0, hcz81_1, hfz81_1, hcz81_2, hfz81_2, hcz81_3, hfz81_3, hcz81_4, hfz81_4, hcz81_5, hfz81_5⟩ := bk6 BK276.out
      try go_wp2_with (first | ((with_reducible refine gate_callee (f := 15) rfl ?_); refine gL (some 26) rfl rfl Try.func15 (by kernel_rfl) rfl #[.agg #[.int .i64 a0_0, .int .i64 a0_1, .int .i64 a0_2, .slice A0_3 l0_3.length c0_3, .slice A0_4 l0_4.length c0_4, .int .i64 a0_5]] rfl ?_; (with_reducible refine (laws_toReq.calls k a0_0 a0_1 a0_2 _ _ l0_3 _ _ l0_4 a0_5 t301 t302 t303 t304 t307 t310 _ ?side1 ?side2 ?side3 ?side4 A22.out).mono ?_); (case side1 => exact cB HR0_3.out HB.out); (case side2 => exact HC0_3.out); (case side3 => exact cB HR0_4.out HB.out); (case side4 => exact HC0_4.out); rintro e w82 ⟨v305, v308, rfl, ho0, ho1, hb⟩; refine ⟨_, rfl, ?_⟩; have _ := aM (Kd.R_elder' (rA HO285.out) (Kd.R_base ho0) hb); have _ := aM (Kd.R_elder' (rA HO288.out) (Kd.R_base ho1) hb); have _ := aM (Kd.R_elder' (rA HO296.out) (Kd.R_base ho0) hb); have _ := aM (Kd.R_elder' (rA HO299.out) (Kd.R_base ho1) hb); have _ := aM (Kd.R_lower (Kd.R_new' (Kd.R_new' ho0 (Kd.R_lt (rA HO285.out))) (Kd.R_lt (rA HO296.out))) (below_size (bS HB.out))); have _ := aM (Kd.R_lower (Kd.R_new' (Kd.R_new' ho1 (Kd.R_lt (rA HO288.out))) (Kd.R_lt (rA HO299.out))) (below_size (bS HB.out))); have _ := aM (kB BK276.out hb); have _ := aM (kB BK277.out hb); have _ := aM (below_step (bS HB.out) hb); clear HO285 HO288 HO296 HO299 BK276 BK277 HB; rename_i HO285 HO288 HO296 HO299 HO306 HO309 BK276 BK277 HB; (try clear hb); (try clear ho0); (try clear ho1)) | ((with_reducible refine gate_dst (N := 7) rfl ?_); refine box_event ?hg (N := 7) ?hd (cs := #[.int .i64 0, .int .i64 0, .int .i64 0, .slice none 0 0, .slice none 0 0, .int .i64 0]) (t := 36) ?hr ?_; (case hd => rfl); (case hg => rfl); (case hr => first | (go_simp; done) | (go_simp; rfl)); intro gb311 hg w83 hbox hb; have _ := aM (rB HO285.out hb); have _ := aM (rB HO288.out hb); have _ := aM (rB HO296.out hb); have _ := aM (rB HO299.out hb); have _ := aM (rB HO306.out hb); have _ := aM (rB HO309.out hb); have _ := aM (kB BK276.out hb); have _ := aM (kB BK277.out hb); have _ := aM (below_step (bS HB.out) hb); have _ := aM (hbox); have _ := aM (leG hg (bS HB.out)); have _ := aM (leG hg (bS HB.out)); have _ := aM (neL hg (kA BK276.out)); have _ := aM (neG hg (kA BK276.out)); have _ := aM (neL hg (kA BK277.out)); have _ := aM (neG hg (kA BK277.out)); clear HO285 HO288 HO296 HO299 HO306 HO309 BK276 BK277 HB; rename_i HO285 HO288 HO296 HO299 HO306 HO309 BK276 BK277 HB BK311 GW311 GE311 NB276_311 NB311_276 NB277_311 NB311_277; clear hb hbox hg; have hnb84 := NB311_276.out; have hnc84 := NB276_311.out; have hnb85 := NB311_277.out; have hnc85 := NB277_311.out; obtain ⟨hcz86_0, hfz86_0, hcz86_1, hfz86_1, hcz86_2, hfz86_2, hcz86_3, hfz86_3, hcz86_4, hfz86_4, hcz86_5, hfz86_5⟩ := bk6 BK311.out; obtain ⟨Ao87, co87, eo87⟩ := Kd.R_slice HO306.out; subst eo87; obtain ⟨Ao88, co88, eo88⟩ := Kd.R_slice HO309.out; subst eo88; obtain ⟨hcz89_0, hfz89_0, hcz89_1, hfz89_1, hcz89_2, hfz89_2, hcz89_3, hfz89_3, hcz89_4, hfz89_4, hcz89_5, hfz89_5⟩ := bk6 BK277.out) | ((with_reducible refine gate_callee (f := 10) rfl ?_); refine gL (some 28) rfl rfl Try.func10 (by kernel_rfl) rfl #[.agg #[.int .i64 a1_0, .int .i64 a1_1, .int .i64 a1_2, .int .i64 a1_3, .slice A1_4 l1_4.length c1_4, .slice A1_5 l1_5.length c1_5]] rfl ?_; (with_reducible refine (laws_toResp.calls k a1_0 a1_1 a1_2 a1_3 _ _ l1_4 _ _ l1_5 t312 t313 t314 t315 t316 t319 _ ?side1 ?side2 ?side3 ?side4 A23.out).mono ?_); (case side1 => exact Kd.C_below HR1_4.out (bS HB.out)); (case side2 => exact HC1_4.out); (case side3 => exact Kd.C_below HR1_5.out (bS HB.out)); (case side4 => exact HC1_5.out); rintro e w90 ⟨v317, v320, rfl, ho0, ho1, hb⟩; refine ⟨_, rfl, ?_⟩; have _ := aM (Kd.R_elder' (rF6 HO285.out BK311.out) (Kd.R_base ho0) hb); have _ := aM (Kd.R_elder' (rF6 HO288.out BK311.out) (Kd.R_base ho1) hb); have _ := aM (Kd.R_elder' (rF6 HO296.out BK311.out) (Kd.R_base ho0) hb); have _ := aM (Kd.R_elder' (rF6 HO299.out BK311.out) (Kd.R_base ho1) hb); have _ := aM (Kd.R_elder' (rF6 HO306.out BK311.out) (Kd.R_base ho0) hb); have _ := aM (Kd.R_elder' (rF6 HO309.out BK311.out) (Kd.R_base ho1) hb); have _ := aM (Kd.R_lower (Kd.R_new' (Kd.R_new' (Kd.R_new' ho0 (Kd.R_lt (rF6 HO285.out BK311.out))) (Kd.R_lt (rF6 HO296.out BK311.out))) (Kd.R_lt (rF6 HO306.out BK311.out))) (below_size (bS HB.out))); have _ := aM (Kd.R_lower (Kd.R_new' (Kd.R_new' (Kd.R_new' ho1 (Kd.R_lt (rF6 HO288.out BK311.out))) (Kd.R_lt (rF6 HO299.out BK311.out))) (Kd.R_lt (rF6 HO309.out BK311.out))) (below_size (bS HB.out))); have _ := aM (blk_below (kF6 BK276.out NB276_311.out) hb); have _ := aM (blk_below (kF6 BK277.out NB277_311.out) hb); have _ := aM (blk_below (kP6 BK311.out) hb); have _ := aM (below_step (bS HB.out) hb); clear HO285 HO288 HO296 HO299 HO306 HO309 BK276 BK277 BK311 HB; rename_i HO285 HO288 HO296 HO299 HO306 HO309 HO318 HO321 BK276 BK277 BK311 HB; (try clear hb); (try clear ho0); (try clear ho1)) | ((with_reducible refine gate_dst (N := 8) rfl ?_); refine box_event ?hg (N := 8) ?hd (cs := #[.int .i64 0, .int .i64 0, .int .i64 0, .int .i64 0, .slice none 0 0, .slice none 0 0]) (t := 28) ?hr ?_; (case hd => rfl); (case hg => rfl); (case hr => first | (go_simp; done) | (go_simp; rfl)); intro gb322 hg w91 hbox hb; have _ := aM (rB HO285.out hb); have _ := aM (rB HO288.out hb); have _ := aM (rB HO296.out hb); have _ := aM (rB HO299.out hb); have _ := aM (rB HO306.out hb); have _ := aM (rB HO309.out hb); have _ := aM (rB HO318.out hb); have _ := aM (rB HO321.out hb); have _ := aM (kB BK276.out hb); have _ := aM (kB BK277.out hb); have _ := aM (kB BK311.out hb); have _ := aM (below_step (bS HB.out) hb); have _ := aM (hbox); have _ := aM (leG hg (bS HB.out)); have _ := aM (leG hg (bS HB.out)); have _ := aM (neL hg (kA BK276.out)); have _ := aM (neG hg (kA BK276.out)); have _ := aM (neL hg (kA BK277.out)); have _ := aM (neG hg (kA BK277.out)); have _ := aM (neL hg (kA BK311.out)); have _ := aM (neG hg (kA BK311.out)); clear HO285 HO288 HO296 HO299 HO306 HO309 HO318 HO321 BK276 BK277 BK311 HB; rename_i HO285 HO288 HO296 HO299 HO306 HO309 HO318 HO321 BK276 BK277 BK311 HB BK322 GW322 GE322 NB276_322 NB322_276 NB277_322 NB322_277 NB311_322 NB322_311; clear hb hbox hg; have hnb92 := NB322_276.out; have hnc92 := NB276_322.out; have hnb93 := NB322_277.out; have hnc93 := NB277_322.out; have hnb94 := NB322_311.out; have hnc94 := NB311_322.out; obtain ⟨hcz95_0, hfz95_0, hcz95_1, hfz95_1, hcz95_2, hfz95_2, hcz95_3, hfz95_3, hcz95_4, hfz95_4, hcz95_5, hfz95_5⟩ := bk6 BK322.out; obtain ⟨Ao96, co96, eo96⟩ := Kd.R_slice HO318.out; subst eo96; obtain ⟨Ao97, co97, eo97⟩ := Kd.R_slice HO321.out; subst eo97; obtain ⟨hcz98_0, hfz98_0, hcz98_1, hfz98_1, hcz98_2, hfz98_2, hcz98_3, hfz98_3, hcz98_4, hfz98_4, hcz98_5, hfz98_5⟩ := bk6 BK311.out) | ((with_reducible refine gate_callee (f := 24) rfl ?_); refine gL (some 31) rfl rfl Try.func24 (by kernel_rfl) rfl #[.agg #[.int .i64 t301, .int .i64 t302, .int .i64 t303, .slice Ao87 t304.length co87, .slice Ao88 t307.length co88, .int .i64 t310], .agg #[.int .i64 t312, .int .i64 t313, .int .i64 t314, .int .i64 t315, .slice Ao96 t316.length co96, .slice Ao97 t319.length co97]] rfl ?_; (with_reducible refine (impl_Suits.calls k t301 t302 t303 _ _ t304 _ _ t307 t310 t312 t313 t314 t315 _ _ t316 _ _ t319 t323 _ ?side1 ?side2 ?side3 ?side4 ?side5 ?side6 ?side7 ?side8 A24.out).mono ?_); (case side1 => exact (Kd.R_reads' (rF6 HO306.out BK322.out)).2.2); (case side2 => exact (Kd.R_reads' HO306.out).2.1); (case side3 => exact (Kd.R_reads' (rF6 HO309.out BK322.out)).2.2); (case side4 => exact (Kd.R_reads' HO309.out).2.1); (case side5 => exact (Kd.R_reads' (rF6 HO318.out BK322.out)).2.2); (case side6 => exact (Kd.R_reads' HO318.out).2.1); (case side7 => exact (Kd.R_reads' (rF6 HO321.out BK322.out)).2.2); (case side8 => exact (Kd.R_reads' HO321.out).2.1); rintro e w99 ⟨rfl, hb⟩; refine ⟨_, rfl, ?_⟩; have _ := aM (Kd.R_below (rF6 HO285.out BK322.out) hb); have _ := aM (Kd.R_below (rF6 HO288.out BK322.out) hb); have _ := aM (Kd.R_below (rF6 HO296.out BK322.out) hb); have _ := aM (Kd.R_below (rF6 HO299.out BK322.out) hb); have _ := aM (Kd.R_below (rF6 HO306.out BK322.out) hb); have _ := aM (Kd.R_below (rF6 HO309.out BK322.out) hb); have _ := aM (Kd.R_below (rF6 HO318.out BK322.out) hb); have _ := aM (Kd.R_below (rF6 HO321.out BK322.out) hb); have _ := aM (blk_below (kF6 BK276.out NB276_322.out) hb); have _ := aM (blk_below (kF6 BK277.out NB277_322.out) hb); have _ := aM (blk_below (kF6 BK311.out NB311_322.out) hb); have _ := aM (blk_below (kP6 BK322.out) hb); have _ := aM (below_step (bS HB.out) hb); clear HO285 HO288 HO296 HO299 HO306 HO309 HO318 HO321 BK276 BK277 BK311 BK322 HB; rename_i HO285 HO288 HO296 HO299 HO306 HO309 HO318 HO321 BK276 BK277 BK311 BK322 HB; (try clear hb)))
      have n0_ := aM (Kd.R_drew HO285.out)
      have n1_ := aM (Kd.R_drew HO288.out)
      have n2_ := aM (Kd.R_drew HO296.out)
      have n3_ := aM (Kd.R_drew HO299.out)
      have n4_ := aM (Kd.R_drew HO306.out)
      have n5_ := aM (Kd.R_drew HO309.out)
      have n6_ := aM (Kd.R_drew HO318.out)
      have n7_ := aM (Kd.R_drew HO321.out)
      have n8_ := aM (blk_drew BK276.out)
      have n9_ := aM (blk_drew BK277.out)
      have n10_ := aM (blk_drew BK311.out)
      have n11_ := aM (blk_drew BK322.out)
      have n12_ := aM (below_drew1 HB.out)
      clear HO285
      clear HO288
      clear HO296
      clear HO299
      clear HO306
      clear HO309
      clear HO318
      clear HO321
      clear BK276
      clear BK277
      clear BK311
      clear BK322
      clear HB
      have HO285 := n0_
      have HO288 := n1_
      have HO296 := n2_
      have HO299 := n3_
      have HO306 := n4_
      have HO309 := n5_
      have HO318 := n6_
      have HO321 := n7_
      have BK276 := n8_
      have BK277 := n9_
      have BK311 := n10_
      have BK322 := n11_
      have HB := n12_
      clear n0_ n1_ n2_ n3_ n4_ n5_ n6_ n7_ n8_ n9_ n10_ n11_ n12_
      refine start_ (n := 5) (S := fun w' => w'.cell? ⟨gb311, 0, none⟩ = some (.int .i64 t301) ∧ w'.cell? ⟨gb311, 1, none⟩ = some (.int .i64 t302) ∧ w'.cell? ⟨gb311, 2, none⟩ = some (.int .i64 t303) ∧ w'.cell? ⟨gb311, 3, none⟩ = some (.slice Ao87 t304.length co87) ∧ w'.cell? ⟨gb311, 4, none⟩ = some (.slice Ao88 t307.length co88) ∧ w'.cell? ⟨gb311, 5, none⟩ = some (.int .i64 t310) ∧ w'.cell? ⟨gb276, 0, none⟩ = some (.int .i64 a0_0) ∧ w'.cell? ⟨gb276, 1, none⟩ = some (.int .i64 a0_1) ∧ w'.cell? ⟨gb276, 2, none⟩ = some (.int .i64 a0_2) ∧ w'.cell? ⟨gb276, 3, none⟩ = some (.slice A0_3 l0_3.length c0_3) ∧ w'.cell? ⟨gb276, 4, none⟩ = some (.slice A0_4 l0_4.length c0_4) ∧ w'.cell? ⟨gb276, 5, none⟩ = some (.int .i64 a0_5)) (ds := []) #[false, false, false, false, false] (by kernel_rfl) rfl rfl ⟨(blk_cell BK311.out 0).trans rfl, (blk_cell BK311.out 1).trans rfl, (blk_cell BK311.out 2).trans rfl, (blk_cell BK311.out 3).trans rfl, (blk_cell BK311.out 4).trans rfl, (blk_cell BK311.out 5).trans rfl, (blk_cell BK276.out 0).trans rfl, (blk_cell BK276.out 1).trans rfl, (blk_cell BK276.out 2).trans rfl, (blk_cell BK276.out 3).trans rfl, (blk_cell BK276.out 4).trans rfl, (blk_cell BK276.out 5).trans rfl⟩ (fun hHeld => ?_)
      generalize w99.drew = w100 at HO285 HO288 HO296 HO299 HO306 HO309 HO318 HO321 BK276 BK277 BK311 BK322 HB hHeld ⊢
      refine take_ (i := 0) (N := some 35) (v := ?_) (a' := ?_) #[true, false, false, false, false] rfl rfl (by kernel_rfl) (fun _ _ _ h => h) (Or.inl ⟨by rfl, ?_⟩) hHeld ?_ ?_
      rotate_left
      ·rintro w' ⟨s0, s1, s2, s3, s4, s5, s6, s7, s8, s9, s10, s11⟩
       go_simp
       with_reducible rfl
      rotate_left
      ·simp only [Act.put, List.setIfInBounds_toArray, List.set_cons_zero, List.set_cons_succ, i64_w, i32_w]
       rfl
      refine take_ (i := 1) (N := some 36) (v := ?_) (a' := ?_) #[true, true, false, false, false] rfl rfl (by kernel_rfl) (fun _ _ _ h => h) (Or.inl ⟨by rfl, ?_⟩) hHeld ?_ ?_
      rotate_left
      ·rintro w' ⟨s0, s1, s2, s3, s4, s5, s6, s7, s8, s9, s10, s11⟩
       go_simp
       with_reducible rfl
      rotate_left
      ·simp only [Act.put, List.setIfInBounds_toArray, List.set_cons_zero, List.set_cons_succ, i64_w, i32_w]
       rfl
      refine one_ (i := 2) (N := some 37) #[true, true, true, false, false] rfl rfl (by kernel_rfl) (by decide) (fun K hK => ?_)
      refine goes_ Try.func15 (by kernel_rfl) rfl #[.agg #[.int .i64 a0_0, .int .i64 a0_1, .int .i64 a0_2, .slice A0_3 l0_3.length c0_3, .slice A0_4 l0_4.length c0_4, .int .i64 a0_5]] (by rfl) rfl rfl (by (try simp only [List.map_toArray, List.map_cons, List.map_nil]); first | done | rfl | (simp only [List.length_drop, List.length_take]; rfl)) ?_
      with_reducible refine (laws_toReq.calls k a0_0 a0_1 a0_2 _ _ l0_3 _ _ l0_4 a0_5 t324 t325 t326 t327 t330 t333 _ ?side1 ?side2 ?side3 ?side4 A60.out).mono ?_
      (case side1 => exact cB HR0_3.out HB.out)
      (case side2 => exact HC0_3.out)
      (case side3 => exact cB HR0_4.out HB.out)
      (case side4 => exact HC0_4.out)
      rintro e w101 ⟨v328, v331, rfl, ho0, ho1, hb⟩
      refine ⟨_, rfl, ?_⟩
      have n0_ := aM (Kd.R_elder' (rA HO285.out) (Kd.R_base ho0) hb)
      have n1_ := aM (Kd.R_elder' (rA HO288.out) (Kd.R_base ho1) hb)
      have n2_ := aM (Kd.R_elder' (rA HO296.out) (Kd.R_base ho0) hb)
      have n3_ := aM (Kd.R_elder' (rA HO299.out) (Kd.R_base ho1) hb)
      have n4_ := aM (Kd.R_elder' (rA HO306.out) (Kd.R_base ho0) hb)
      have n5_ := aM (Kd.R_elder' (rA HO309.out) (Kd.R_base ho1) hb)
      have n6_ := aM (Kd.R_elder' (rA HO318.out) (Kd.R_base ho0) hb)
      have n7_ := aM (Kd.R_elder' (rA HO321.out) (Kd.R_base ho1) hb)
      have n8_ := aM (Kd.R_lower (Kd.R_new' (Kd.R_new' (Kd.R_new' (Kd.R_new' ho0 (Kd.R_lt (rA HO285.out))) (Kd.R_lt (rA HO296.out))) (Kd.R_lt (rA HO306.out))) (Kd.R_lt (rA HO318.out))) (below_size (bS HB.out)))
      have n9_ := aM (Kd.R_lower (Kd.R_new' (Kd.R_new' (Kd.R_new' (Kd.R_new' ho1 (Kd.R_lt (rA HO288.out))) (Kd.R_lt (rA HO299.out))) (Kd.R_lt (rA HO309.out))) (Kd.R_lt (rA HO321.out))) (below_size (bS HB.out)))
      have n10_ := aM (kB BK276.out hb)
      have n11_ := aM (kB BK277.out hb)
      have n12_ := aM (kB BK311.out hb)
      have n13_ := aM (kB BK322.out hb)
      have n14_ := aM (below_step (bS HB.out) hb)
      clear HO285
      clear HO288
      clear HO296
      clear HO299
      clear HO306
      clear HO309
      clear HO318
      clear HO321
      clear BK276
      clear BK277
      clear BK311
      clear BK322
      clear HB
      have HO285 := n0_
      have HO288 := n1_
      have HO296 := n2_
      have HO299 := n3_
      have HO306 := n4_
      have HO309 := n5_
      have HO318 := n6_
      have HO321 := n7_
      have HO329 := n8_
      have HO332 := n9_
      have BK276 := n10_
      have BK277 := n11_
      have BK311 := n12_
      have BK322 := n13_
      have HB := n14_
      clear n0_ n1_ n2_ n3_ n4_ n5_ n6_ n7_ n8_ n9_ n10_ n11_ n12_ n13_ n14_
      (try clear hb)
      (try clear hb2)
      (try clear hk)
      (try clear hi)
      (try clear ho0)
      (try clear ho1)
      obtain ⟨Ao102, co102, eo102⟩ := Kd.R_slice HO329.out
      (first | subst eo102 | (injection eo102 with f1_ f2_ f3_; have f4_ := f1_.symm; have f5_ := f3_.symm; clear f1_ f2_ f3_; subst f4_; subst f5_))
      obtain ⟨Ao103, co103, eo103⟩ := Kd.R_slice HO332.out
      (first | subst eo103 | (injection eo103 with f1_ f2_ f3_; have f4_ := f1_.symm; have f5_ := f3_.symm; clear f1_ f2_ f3_; subst f4_; subst f5_))
      refine hK.out _ _ ⟨(blk_cell BK311.out 0).trans rfl, (blk_cell BK311.out 1).trans rfl, (blk_cell BK311.out 2).trans rfl, (blk_cell BK311.out 3).trans rfl, (blk_cell BK311.out 4).trans rfl, (blk_cell BK311.out 5).trans rfl, (blk_cell BK276.out 0).trans rfl, (blk_cell BK276.out 1).trans rfl, (blk_cell BK276.out 2).trans rfl, (blk_cell BK276.out 3).trans rfl, (blk_cell BK276.out 4).trans rfl, (blk_cell BK276.out 5).trans rfl⟩ (fun hHeld => ?_)
      clear hK K
      refine norm_ (a' := ?_) ?_ ?_
      rotate_left
      ·show Act.put _ (some 37) _ = _
       simp only [Act.put, List.setIfInBounds_toArray, List.set_cons_zero, List.set_cons_succ, i64_w, i32_w]
       rfl
      refine one_ (i := 3) (N := some 38) #[true, true, true, true, false] rfl rfl (by kernel_rfl) (by decide) (fun K hK => ?_)
      refine goes_ Try.func17 (by kernel_rfl) rfl #[.agg #[.int .i64 t301, .int .i64 t302, .int .i64 t303, .slice Ao87 t304.length co87, .slice Ao88 t307.length co88, .int .i64 t310], .agg #[.int .i64 t324, .int .i64 t325, .int .i64 t326, .slice Ao102 t327.length co102, .slice Ao103 t330.length co103, .int .i64 t333]] (by rfl) rfl rfl (by (try simp only [List.map_toArray, List.map_cons, List.map_nil]); first | done | rfl | (simp only [List.length_drop, List.length_take]; rfl)) ?_
      with_reducible refine (laws_eqReq.calls k t301 t302 t303 _ _ t304 _ _ t307 t310 t324 t325 t326 _ _ t327 _ _ t330 t333 true _ ?side1 ?side2 ?side3 ?side4 ?side5 ?side6 ?side7 ?side8 A61.out).mono ?_
      (case side1 => exact cR HO306.out)
      (case side2 => exact (Kd.R_reads' HO306.out).2.1)
      (case side3 => exact cR HO309.out)
      (case side4 => exact (Kd.R_reads' HO309.out).2.1)
      (case side5 => exact cR HO329.out)
      (case side6 => exact (Kd.R_reads' HO329.out).2.1)
      (case side7 => exact cR HO332.out)
      (case side8 => exact (Kd.R_reads' HO332.out).2.1)
      rintro e w104 ⟨rfl, hb⟩
      refine ⟨_, rfl, ?_⟩
      have n0_ := aM (rB HO285.out hb)
      have n1_ := aM (rB HO288.out hb)
      have n2_ := aM (rB HO296.out hb)
      have n3_ := aM (rB HO299.out hb)
      have n4_ := aM (rB HO306.out hb)
      have n5_ := aM (rB HO309.out hb)
      have n6_ := aM (rB HO318.out hb)
      have n7_ := aM (rB HO321.out hb)
      have n8_ := aM (rB HO329.out hb)
      have n9_ := aM (rB HO332.out hb)
      have n10_ := aM (kB BK276.out hb)
      have n11_ := aM (kB BK277.out hb)
      have n12_ := aM (kB BK311.out hb)
      have n13_ := aM (kB BK322.out hb)
      have n14_ := aM (below_step (bS HB.out) hb)
      clear HO285
      clear HO288
      clear HO296
      clear HO299
      clear HO306
      clear HO309
      clear HO318
      clear HO321
      clear HO329
      clear HO332
      clear BK276
      clear BK277
      clear BK311
      clear BK322
      clear HB
      have HO285 := n0_
      have HO288 := n1_
      have HO296 := n2_
      have HO299 := n3_
      have HO306 := n4_
      have HO309 := n5_
      have HO318 := n6_
      have HO321 := n7_
      have HO329 := n8_
      have HO332 := n9_
      have BK276 := n10_
      have BK277 := n11_
      have BK311 := n12_
      have BK322 := n13_
      have HB := n14_
      clear n0_ n1_ n2_ n3_ n4_ n5_ n6_ n7_ n8_ n9_ n10_ n11_ n12_ n13_ n14_
      (try clear hb)
      (try clear hb2)
      (try clear hk)
      (try clear hi)
      refine hK.out _ _ ⟨(blk_cell BK311.out 0).trans rfl, (blk_cell BK311.out 1).trans rfl, (blk_cell BK311.out 2).trans rfl, (blk_cell BK311.out 3).trans rfl, (blk_cell BK311.out 4).trans rfl, (blk_cell BK311.out 5).trans rfl, (blk_cell BK276.out 0).trans rfl, (blk_cell BK276.out 1).trans rfl, (blk_cell BK276.out 2).trans rfl, (blk_cell BK276.out 3).trans rfl, (blk_cell BK276.out 4).trans rfl, (blk_cell BK276.out 5).trans rfl⟩ (fun hHeld => ?_)
      clear hK K
      refine norm_ (a' := ?_) ?_ ?_
      rotate_left
      ·show Act.put _ (some 38) _ = _
       simp only [Act.put, List.setIfInBounds_toArray, List.set_cons_zero, List.set_cons_succ, i64_w, i32_w]
       rfl
      refine pure_ (i := 4) (N := some 39) (v := ?_) (a' := ?_) #[true, true, true, true, true] rfl rfl (by kernel_rfl) (fun _ _ _ h => h) (Or.inl ⟨by rfl, ?_⟩) ?_ ?_
      rotate_left
      ·intro w'
       go_simp
       with_reducible rfl
      rotate_left
      ·simp only [Act.put, List.setIfInBounds_toArray, List.set_cons_zero, List.set_cons_succ, i64_w, i32_w]
       rfl
      refine done_ (by kernel_rfl) ?_
      try go_wp2
      have n0_ := aM (Kd.R_drew HO285.out)
      have n1_ := aM (Kd.R_drew HO288.out)
      have n2_ := aM (Kd.R_drew HO296.out)
      have n3_ := aM (Kd.R_drew HO299.out)
      have n4_ := aM (Kd.R_drew HO306.out)
      have n5_ := aM (Kd.R_drew HO309.out)
      have n6_ := aM (Kd.R_drew HO318.out)
      have n7_ := aM (Kd.R_drew HO321.out)
      have n8_ := aM (Kd.R_drew HO329.out)
      have n9_ := aM (Kd.R_drew HO332.out)
      have n10_ := aM (blk_drew BK276.out)
      have n11_ := aM (blk_drew BK277.out)
      have n12_ := aM (blk_drew BK311.out)
      have n13_ := aM (blk_drew BK322.out)
      have n14_ := aM (below_drew1 HB.out)
      clear HO285
      clear HO288
      clear HO296
      clear HO299
      clear HO306
      clear HO309
      clear HO318
      clear HO321
      clear HO329
      clear HO332
      clear BK276
      clear BK277
      clear BK311
      clear BK322
      clear HB
      have HO285 := n0_
      have HO288 := n1_
      have HO296 := n2_
      have HO299 := n3_
      have HO306 := n4_
      have HO309 := n5_
      have HO318 := n6_
      have HO321 := n7_
      have HO329 := n8_
      have HO332 := n9_
      have BK276 := n10_
      have BK277 := n11_
      have BK311 := n12_
      have BK322 := n13_
      have HB := n14_
      clear n0_ n1_ n2_ n3_ n4_ n5_ n6_ n7_ n8_ n9_ n10_ n11_ n12_ n13_ n14_
      refine start_ (n := 5) (S := fun w' => w'.cell? ⟨gb322, 0, none⟩ = some (.int .i64 t312) ∧ w'.cell? ⟨gb322, 1, none⟩ = some (.int .i64 t313) ∧ w'.cell? ⟨gb322, 2, none⟩ = some (.int .i64 t314) ∧ w'.cell? ⟨gb322, 3, none⟩ = some (.int .i64 t315) ∧ w'.cell? ⟨gb322, 4, none⟩ = some (.slice Ao96 t316.length co96) ∧ w'.cell? ⟨gb322, 5, none⟩ = some (.slice Ao97 t319.length co97) ∧ w'.cell? ⟨gb277, 0, none⟩ = some (.int .i64 a1_0) ∧ w'.cell? ⟨gb277, 1, none⟩ = some (.int .i64 a1_1) ∧ w'.cell? ⟨gb277, 2, none⟩ = some (.int .i64 a1_2) ∧ w'.cell? ⟨gb277, 3, none⟩ = some (.int .i64 a1_3) ∧ w'.cell? ⟨gb277, 4, none⟩ = some (.slice A1_4 l1_4.length c1_4) ∧ w'.cell? ⟨gb277, 5, none⟩ = some (.slice A1_5 l1_5.length c1_5)) (ds := []) #[false, false, false, false, false] (by kernel_rfl) rfl rfl ⟨(blk_cell BK322.out 0).trans rfl, (blk_cell BK322.out 1).trans rfl, (blk_cell BK322.out 2).trans rfl, (blk_cell BK322.out 3).trans rfl, (blk_cell BK322.out 4).trans rfl, (blk_cell BK322.out 5).trans rfl, (blk_cell BK277.out 0).trans rfl, (blk_cell BK277.out 1).trans rfl, (blk_cell BK277.out 2).trans rfl, (blk_cell BK277.out 3).trans rfl, (blk_cell BK277.out 4).trans rfl, (blk_cell BK277.out 5).trans rfl⟩ (fun hHeld => ?_)
      generalize w104.drew = w105 at HO285 HO288 HO296 HO299 HO306 HO309 HO318 HO321 HO329 HO332 BK276 BK277 BK311 BK322 HB hHeld ⊢
      refine take_ (i := 0) (N := some 40) (v := ?_) (a' := ?_) #[true, false, false, false, false] rfl rfl (by kernel_rfl) (fun _ _ _ h => h) (Or.inl ⟨by rfl, ?_⟩) hHeld ?_ ?_
      rotate_left
      ·rintro w' ⟨s0, s1, s2, s3, s4, s5, s6, s7, s8, s9, s10, s11⟩
       go_simp
       with_reducible rfl
      rotate_left
      ·simp only [Act.put, List.setIfInBounds_toArray, List.set_cons_zero, List.set_cons_succ, i64_w, i32_w]
       rfl
      refine take_ (i := 1) (N := some 41) (v := ?_) (a' := ?_) #[true, true, false, false, false] rfl rfl (by kernel_rfl) (fun _ _ _ h => h) (Or.inl ⟨by rfl, ?_⟩) hHeld ?_ ?_
      rotate_left
      ·rintro w' ⟨s0, s1, s2, s3, s4, s5, s6, s7, s8, s9, s10, s11⟩
       go_simp
       with_reducible rfl
      rotate_left
      ·simp only [Act.put, List.setIfInBounds_toArray, List.set_cons_zero, List.set_cons_succ, i64_w, i32_w]
       rfl
      refine one_ (i := 2) (N := some 42) #[true, true, true, false, false] rfl rfl (by kernel_rfl) (by decide) (fun K hK => ?_)
      refine goes_ Try.func10 (by kernel_rfl) rfl #[.agg #[.int .i64 a1_0, .int .i64 a1_1, .int .i64 a1_2, .int .i64 a1_3, .slice A1_4 l1_4.length c1_4, .slice A1_5 l1_5.length c1_5]] (by rfl) rfl rfl (by (try simp only [List.map_toArray, List.map_cons, List.map_nil]); first | done | rfl | (simp only [List.length_drop, List.length_take]; rfl)) ?_
      with_reducible refine (laws_toResp.calls k a1_0 a1_1 a1_2 a1_3 _ _ l1_4 _ _ l1_5 t335 t336 t337 t338 t339 t342 _ ?side1 ?side2 ?side3 ?side4 A63.out).mono ?_
      (case side1 => exact cB HR1_4.out HB.out)
      (case side2 => exact HC1_4.out)
      (case side3 => exact cB HR1_5.out HB.out)
      (case side4 => exact HC1_5.out)
      rintro e w106 ⟨v340, v343, rfl, ho0, ho1, hb⟩
      refine ⟨_, rfl, ?_⟩
      have n0_ := aM (Kd.R_elder' (rA HO285.out) (Kd.R_base ho0) hb)
      have n1_ := aM (Kd.R_elder' (rA HO288.out) (Kd.R_base ho1) hb)
      have n2_ := aM (Kd.R_elder' (rA HO296.out) (Kd.R_base ho0) hb)
      have n3_ := aM (Kd.R_elder' (rA HO299.out) (Kd.R_base ho1) hb)
      have n4_ := aM (Kd.R_elder' (rA HO306.out) (Kd.R_base ho0) hb)
      have n5_ := aM (Kd.R_elder' (rA HO309.out) (Kd.R_base ho1) hb)
      have n6_ := aM (Kd.R_elder' (rA HO318.out) (Kd.R_base ho0) hb)
      have n7_ := aM (Kd.R_elder' (rA HO321.out) (Kd.R_base ho1) hb)
      have n8_ := aM (Kd.R_elder' (rA HO329.out) (Kd.R_base ho0) hb)
      have n9_ := aM (Kd.R_elder' (rA HO332.out) (Kd.R_base ho1) hb)
      have n10_ := aM (Kd.R_lower (Kd.R_new' (Kd.R_new' (Kd.R_new' (Kd.R_new' (Kd.R_new' ho0 (Kd.R_lt (rA HO285.out))) (Kd.R_lt (rA HO296.out))) (Kd.R_lt (rA HO306.out))) (Kd.R_lt (rA HO318.out))) (Kd.R_lt (rA HO329.out))) (below_size (bS HB.out)))
      have n11_ := aM (Kd.R_lower (Kd.R_new' (Kd.R_new' (Kd.R_new' (Kd.R_new' (Kd.R_new' ho1 (Kd.R_lt (rA HO288.out))) (Kd.R_lt (rA HO299.out))) (Kd.R_lt (rA HO309.out))) (Kd.R_lt (rA HO321.out))) (Kd.R_lt (rA HO332.out))) (below_size (bS HB.out)))
      have n12_ := aM (kB BK276.out hb)
      have n13_ := aM (kB BK277.out hb)
      have n14_ := aM (kB BK311.out hb)
      have n15_ := aM (kB BK322.out hb)
      have n16_ := aM (below_step (bS HB.out) hb)
      clear HO285
      clear HO288
      clear HO296
      clear HO299
      clear HO306
      clear HO309
      clear HO318
      clear HO321
      clear HO329
      clear HO332
      clear BK276
      clear BK277
      clear BK311
      clear BK322
      clear HB
      have HO285 := n0_
      have HO288 := n1_
      have HO296 := n2_
      have HO299 := n3_
      have HO306 := n4_
      have HO309 := n5_
      have HO318 := n6_
      have HO321 := n7_
      have HO329 := n8_
      have HO332 := n9_
      have HO341 := n10_
      have HO344 := n11_
      have BK276 := n12_
      have BK277 := n13_
      have BK311 := n14_
      have BK322 := n15_
      have HB := n16_
      clear n0_ n1_ n2_ n3_ n4_ n5_ n6_ n7_ n8_ n9_ n10_ n11_ n12_ n13_ n14_ n15_ n16_
      (try clear hb)
      (try clear hb2)
      (try clear hk)
      (try clear hi)
      (try clear ho0)
      (try clear ho1)
      obtain ⟨Ao107, co107, eo107⟩ := Kd.R_slice HO341.out
      (first | subst eo107 | (injection eo107 with f1_ f2_ f3_; have f4_ := f1_.symm; have f5_ := f3_.symm; clear f1_ f2_ f3_; subst f4_; subst f5_))
      obtain ⟨Ao108, co108, eo108⟩ := Kd.R_slice HO344.out
      (first | subst eo108 | (injection eo108 with f1_ f2_ f3_; have f4_ := f1_.symm; have f5_ := f3_.symm; clear f1_ f2_ f3_; subst f4_; subst f5_))
      refine hK.out _ _ ⟨(blk_cell BK322.out 0).trans rfl, (blk_cell BK322.out 1).trans rfl, (blk_cell BK322.out 2).trans rfl, (blk_cell BK322.out 3).trans rfl, (blk_cell BK322.out 4).trans rfl, (blk_cell BK322.out 5).trans rfl, (blk_cell BK277.out 0).trans rfl, (blk_cell BK277.out 1).trans rfl, (blk_cell BK277.out 2).trans rfl, (blk_cell BK277.out 3).trans rfl, (blk_cell BK277.out 4).trans rfl, (blk_cell BK277.out 5).trans rfl⟩ (fun hHeld => ?_)
      clear hK K
      refine norm_ (a' := ?_) ?_ ?_
      rotate_left
      ·show Act.put _ (some 42) _ = _
       simp only [Act.put, List.setIfInBounds_toArray, List.set_cons_zero, List.set_cons_succ, i64_w, i32_w]
       rfl
      refine one_ (i := 3) (N := some 43) #[true, true, true, true, false] rfl rfl (by kernel_rfl) (by decide) (fun K hK => ?_)
      refine goes_ Try.func12 (by kernel_rfl) rfl #[.agg #[.int .i64 t312, .int .i64 t313, .int .i64 t314, .int .i64 t315, .slice Ao96 t316.length co96, .slice Ao97 t319.length co97], .agg #[.int .i64 t335, .int .i64 t336, .int .i64 t337, .int .i64 t338, .slice Ao107 t339.length co107, .slice Ao108 t342.length co108]] (by rfl) rfl rfl (by (try simp only [List.map_toArray, List.map_cons, List.map_nil]); first | done | rfl | (simp only [List.length_drop, List.length_take]; rfl)) ?_
      with_reducible refine (laws_eqResp.calls k t312 t313 t314 t315 _ _ t316 _ _ t319 t335 t336 t337 t338 _ _ t339 _ _ t342 true _ ?side1 ?side2 ?side3 ?side4 ?side5 ?side6 ?side7 ?side8 A64.out).mono ?_
      (case side1 => exact cR HO318.out)
      (case side2 => exact (Kd.R_reads' HO318.out).2.1)
      (case side3 => exact cR HO321.out)
      (case side4 => exact (Kd.R_reads' HO321.out).2.1)
      (case side5 => exact cR HO341.out)
      (case side6 => exact (Kd.R_reads' HO341.out).2.1)
      (case side7 => exact cR HO344.out)
      (case side8 => exact (Kd.R_reads' HO344.out).2.1)
      rintro e w109 ⟨rfl, hb⟩
      refine ⟨_, rfl, ?_⟩
      have n0_ := aM (rB HO285.out hb)
      have n1_ := aM (rB HO288.out hb)
      have n2_ := aM (rB HO296.out hb)
      have n3_ := aM (rB HO299.out hb)
      have n4_ := aM (rB HO306.out hb)
      have n5_ := aM (rB HO309.out hb)
      have n6_ := aM (rB HO318.out hb)
      have n7_ := aM (rB HO321.out hb)
      have n8_ := aM (rB HO329.out hb)
      have n9_ := aM (rB HO332.out hb)
      have n10_ := aM (rB HO341.out hb)
      have n11_ := aM (rB HO344.out hb)
      have n12_ := aM (kB BK276.out hb)
      have n13_ := aM (kB BK277.out hb)
      have n14_ := aM (kB BK311.out hb)
      have n15_ := aM (kB BK322.out hb)
      have n16_ := aM (below_step (bS HB.out) hb)
      clear HO285
      clear HO288
      clear HO296
      clear HO299
      clear HO306
      clear HO309
      clear HO318
      clear HO321
      clear HO329
      clear HO332
      clear HO341
      clear HO344
      clear BK276
      clear BK277
      clear BK311
      clear BK322
      clear HB
      have HO285 := n0_
      have HO288 := n1_
      have HO296 := n2_
      have HO299 := n3_
      have HO306 := n4_
      have HO309 := n5_
      have HO318 := n6_
      have HO321 := n7_
      have HO329 := n8_
      have HO332 := n9_
      have HO341 := n10_
      have HO344 := n11_
      have BK276 := n12_
      have BK277 := n13_
      have BK311 := n14_
      have BK322 := n15_
      have HB := n16_
      clear n0_ n1_ n2_ n3_ n4_ n5_ n6_ n7_ n8_ n9_ n10_ n11_ n12_ n13_ n14_ n15_ n16_
      (try clear hb)
      (try clear hb2)
      (try clear hk)
      (try clear hi)
      refine hK.out _ _ ⟨(blk_cell BK322.out 0).trans rfl, (blk_cell BK322.out 1).trans rfl, (blk_cell BK322.out 2).trans rfl, (blk_cell BK322.out 3).trans rfl, (blk_cell BK322.out 4).trans rfl, (blk_cell BK322.out 5).trans rfl, (blk_cell BK277.out 0).trans rfl, (blk_cell BK277.out 1).trans rfl, (blk_cell BK277.out 2).trans rfl, (blk_cell BK277.out 3).trans rfl, (blk_cell BK277.out 4).trans rfl, (blk_cell BK277.out 5).trans rfl⟩ (fun hHeld => ?_)
      clear hK K
      refine norm_ (a' := ?_) ?_ ?_
      rotate_left
      ·show Act.put _ (some 43) _ = _
       simp only [Act.put, List.setIfInBounds_toArray, List.set_cons_zero, List.set_cons_succ, i64_w, i32_w]
       rfl
      refine pure_ (i := 4) (N := some 44) (v := ?_) (a' := ?_) #[true, true, true, true, true] rfl rfl (by kernel_rfl) (fun _ _ _ h => h) (Or.inl ⟨by rfl, ?_⟩) ?_ ?_
      rotate_left
      ·intro w'
       go_simp
       with_reducible rfl
      rotate_left
      ·simp only [Act.put, List.setIfInBounds_toArray, List.set_cons_zero, List.set_cons_succ, i64_w, i32_w]
       rfl
      refine done_ (by kernel_rfl) ?_
      try go_wp2
      go_ret
      exact ⟨by first | rfl | (simp [errW_none, errW_some] <;> rfl) | (simp [*, errW_none, errW_some] <;> rfl), bS HB.out⟩
     ·replace c65 := Bool.eq_false_iff.mpr c65
      subst c65
      have H1 : (some false) = some r := by rw [if_neg (show ¬ (false = true) by decide)] at H; exact H
      clear H
      have H := H1
      clear H1
      obtain rfl := Option.some.inj H
      go_enter Try.func6, Try.ntmps6
      try go_wp2_with (first | ((with_reducible refine gate_dst (N := 2) rfl ?_); refine box_event ?hg (N := 2) ?hd (cs := #[.int .i64 a0_0, .int .i64 a0_1, .int .i64 a0_2, .slice A0_3 l0_3.length c0_3, .slice A0_4 l0_4.length c0_4, .int .i64 a0_5]) (t := 33) ?hr ?_; (case hd => rfl); (case hg => rfl); (case hr => first | (go_simp; done) | (go_simp; rfl)); intro gb276 hg w110 hbox hb; have _ := aM (below_step (bS HB.out) hb); have _ := aM (hbox); have _ := aM (leG hg (bS HB.out)); have _ := aM (leG hg (bS HB.out)); clear HB; rename_i HB BK276 GW276 GE276; clear hb hbox hg) | ((with_reducible refine gate_dst (N := 3) rfl ?_); refine box_event ?hg (N := 3) ?hd (cs := #[.int .i64 a1_0, .int .i64 a1_1, .int .i64 a1_2, .int .i64 a1_3, .slice A1_4 l1_4.length c1_4, .slice A1_5 l1_5.length c1_5]) (t := 25) ?hr ?_; (case hd => rfl); (case hg => rfl); (case hr => first | (go_simp; done) | (go_simp; rfl)); intro gb277 hg w111 hbox hb; have _ := aM (kB BK276.out hb); have _ := aM (below_step (bS HB.out) hb); have _ := aM (hbox); have _ := aM (leG hg (bS HB.out)); have _ := aM (leG hg (bS HB.out)); have _ := aM (neL hg (kA BK276.out)); have _ := aM (neG hg (kA BK276.out)); clear BK276 HB; rename_i BK276 HB BK277 GW277 GE277 NB276_277 NB277_276; clear hb hbox hg; have hnb112 := NB276_277.out; have hnc112 := NB277_276.out; obtain ⟨hcz113_0, hfz113_0, hcz113_1, hfz113_1, hcz113_2, hfz113_2, hcz113_3, hfz113_3, hcz113_4, hfz113_4, hcz113_5, hfz113_5⟩ := bk6 BK276.out) | ((with_reducible refine gate_callee (f := 13) rfl ?_); refine gL (some 12) rfl rfl Try.func13 (by kernel_rfl) rfl #[.agg #[.int .i64 a0_0, .int .i64 a0_1, .int .i64 a0_2, .slice A0_3 l0_3.length c0_3, .slice A0_4 l0_4.length c0_4, .int .i64 a0_5], .int .i64 1048576] rfl ?_; (with_reducible refine (laws_szReq.calls a0_0 a0_1 a0_2 _ _ l0_3 _ _ l0_4 a0_5 1048576 t278 _ ?side1 ?side2 ?side3 ?side4 A3.out).mono ?_); (case side1 => exact cB HR0_3.out HB.out); (case side2 => exact HC0_3.out); (case side3 => exact cB HR0_4.out HB.out); (case side4 => exact HC0_4.out); rintro e w114 ⟨rfl, hb⟩; refine ⟨_, rfl, ?_⟩; have _ := aM (kB BK276.out hb); have _ := aM (kB BK277.out hb); have _ := aM (below_step (bS HB.out) hb); clear BK276 BK277 HB; rename_i BK276 BK277 HB; (try clear hb); obtain ⟨hcz115_0, hfz115_0, hcz115_1, hfz115_1, hcz115_2, hfz115_2, hcz115_3, hfz115_3, hcz115_4, hfz115_4, hcz115_5, hfz115_5⟩ := bk6 BK277.out) | ((with_reducible refine gate_callee (f := 8) rfl ?_); refine gL (some 17) rfl rfl Try.func8 (by kernel_rfl) rfl #[.agg #[.int .i64 a1_0, .int .i64 a1_1, .int .i64 a1_2, .int .i64 a1_3, .slice A1_4 l1_4.length c1_4, .slice A1_5 l1_5.length c1_5], .int .i64 t278] rfl ?_; (with_reducible refine (laws_szResp.calls a1_0 a1_1 a1_2 a1_3 _ _ l1_4 _ _ l1_5 t278 t279 _ ?side1 ?side2 ?side3 ?side4 A10.out).mono ?_); (case side1 => exact cB HR1_4.out HB.out); (case side2 => exact HC1_4.out); (case side3 => exact cB HR1_5.out HB.out); (case side4 => exact HC1_5.out); rintro e w116 ⟨rfl, hb⟩; refine ⟨_, rfl, ?_⟩; have _ := aM (kB BK276.out hb); have _ := aM (kB BK277.out hb); have _ := aM (below_step (bS HB.out) hb); clear BK276 BK277 HB; rename_i BK276 BK277 HB; (try clear hb)))
      have n0_ := aM (blk_drew BK276.out)
      have n1_ := aM (blk_drew BK277.out)
      have n2_ := aM (below_drew1 HB.out)
      clear BK276
      clear BK277
      clear HB
      have BK276 := n0_
      have BK277 := n1_
      have HB := n2_
      clear n0_ n1_ n2_
      refine start_ (n := 6) (S := fun w' => w'.cell? ⟨gb276, 0, none⟩ = some (.int .i64 a0_0) ∧ w'.cell? ⟨gb276, 1, none⟩ = some (.int .i64 a0_1) ∧ w'.cell? ⟨gb276, 2, none⟩ = some (.int .i64 a0_2) ∧ w'.cell? ⟨gb276, 3, none⟩ = some (.slice A0_3 l0_3.length c0_3) ∧ w'.cell? ⟨gb276, 4, none⟩ = some (.slice A0_4 l0_4.length c0_4) ∧ w'.cell? ⟨gb276, 5, none⟩ = some (.int .i64 a0_5) ∧ w'.cell? ⟨gb277, 0, none⟩ = some (.int .i64 a1_0) ∧ w'.cell? ⟨gb277, 1, none⟩ = some (.int .i64 a1_1) ∧ w'.cell? ⟨gb277, 2, none⟩ = some (.int .i64 a1_2) ∧ w'.cell? ⟨gb277, 3, none⟩ = some (.int .i64 a1_3) ∧ w'.cell? ⟨gb277, 4, none⟩ = some (.slice A1_4 l1_4.length c1_4) ∧ w'.cell? ⟨gb277, 5, none⟩ = some (.slice A1_5 l1_5.length c1_5)) (ds := []) #[false, false, false, false, false, false] (by kernel_rfl) rfl rfl ⟨(blk_cell BK276.out 0).trans rfl, (blk_cell BK276.out 1).trans rfl, (blk_cell BK276.out 2).trans rfl, (blk_cell BK276.out 3).trans rfl, (blk_cell BK276.out 4).trans rfl, (blk_cell BK276.out 5).trans rfl, (blk_cell BK277.out 0).trans rfl, (blk_cell BK277.out 1).trans rfl, (blk_cell BK277.out 2).trans rfl, (blk_cell BK277.out 3).trans rfl, (blk_cell BK277.out 4).trans rfl, (blk_cell BK277.out 5).trans rfl⟩ (fun hHeld => ?_)
      generalize w116.drew = w117 at BK276 BK277 HB hHeld ⊢
      refine take_ (i := 0) (N := some 20) (v := ?_) (a' := ?_) #[true, false, false, false, false, false] rfl rfl (by kernel_rfl) (fun _ _ _ h => h) (Or.inl ⟨by rfl, ?_⟩) hHeld ?_ ?_
      rotate_left
      ·rintro w' ⟨s0, s1, s2, s3, s4, s5, s6, s7, s8, s9, s10, s11⟩
       go_simp
       with_reducible rfl
      rotate_left
      ·simp only [Act.put, List.setIfInBounds_toArray, List.set_cons_zero, List.set_cons_succ, i64_w, i32_w]
       rfl
      refine take_ (i := 2) (N := some 22) (v := ?_) (a' := ?_) #[true, false, true, false, false, false] rfl rfl (by kernel_rfl) (fun _ _ _ h => h) (Or.inl ⟨by rfl, ?_⟩) hHeld ?_ ?_
      rotate_left
      ·rintro w' ⟨s0, s1, s2, s3, s4, s5, s6, s7, s8, s9, s10, s11⟩
       go_simp
       with_reducible rfl
      rotate_left
      ·simp only [Act.put, List.setIfInBounds_toArray, List.set_cons_zero, List.set_cons_succ, i64_w, i32_w]
       rfl
      refine one_ (i := 1) (N := some 21) #[true, true, true, false, false, false] rfl rfl (by kernel_rfl) (by decide) (fun K hK => ?_)
      refine goes_ Try.func15 (by kernel_rfl) rfl #[.agg #[.int .i64 a0_0, .int .i64 a0_1, .int .i64 a0_2, .slice A0_3 l0_3.length c0_3, .slice A0_4 l0_4.length c0_4, .int .i64 a0_5]] (by rfl) rfl rfl (by (try simp only [List.map_toArray, List.map_cons, List.map_nil]); first | done | rfl | (simp only [List.length_drop, List.length_take]; rfl)) ?_
      with_reducible refine (laws_toReq.calls k a0_0 a0_1 a0_2 _ _ l0_3 _ _ l0_4 a0_5 t280 t281 t282 t283 t286 t289 _ ?side1 ?side2 ?side3 ?side4 A19.out).mono ?_
      (case side1 => exact cB HR0_3.out HB.out)
      (case side2 => exact HC0_3.out)
      (case side3 => exact cB HR0_4.out HB.out)
      (case side4 => exact HC0_4.out)
      rintro e w118 ⟨v284, v287, rfl, ho0, ho1, hb⟩
      refine ⟨_, rfl, ?_⟩
      have n0_ := aM (Kd.R_lower ho0 (below_size (bS HB.out)))
      have n1_ := aM (Kd.R_lower ho1 (below_size (bS HB.out)))
      have n2_ := aM (kB BK276.out hb)
      have n3_ := aM (kB BK277.out hb)
      have n4_ := aM (below_step (bS HB.out) hb)
      clear BK276
      clear BK277
      clear HB
      have HO285 := n0_
      have HO288 := n1_
      have BK276 := n2_
      have BK277 := n3_
      have HB := n4_
      clear n0_ n1_ n2_ n3_ n4_
      (try clear hb)
      (try clear hb2)
      (try clear hk)
      (try clear hi)
      (try clear ho0)
      (try clear ho1)
      refine hK.out _ _ ⟨(blk_cell BK276.out 0).trans rfl, (blk_cell BK276.out 1).trans rfl, (blk_cell BK276.out 2).trans rfl, (blk_cell BK276.out 3).trans rfl, (blk_cell BK276.out 4).trans rfl, (blk_cell BK276.out 5).trans rfl, (blk_cell BK277.out 0).trans rfl, (blk_cell BK277.out 1).trans rfl, (blk_cell BK277.out 2).trans rfl, (blk_cell BK277.out 3).trans rfl, (blk_cell BK277.out 4).trans rfl, (blk_cell BK277.out 5).trans rfl⟩ (fun hHeld => ?_)
      clear hK K
      refine norm_ (a' := ?_) ?_ ?_
      rotate_left
      ·show Act.put _ (some 21) _ = _
       simp only [Act.put, List.setIfInBounds_toArray, List.set_cons_zero, List.set_cons_succ, i64_w, i32_w]
       rfl
      refine one_ (i := 3) (N := some 23) #[true, true, true, true, false, false] rfl rfl (by kernel_rfl) (by decide) (fun K hK => ?_)
      refine goes_ Try.func10 (by kernel_rfl) rfl #[.agg #[.int .i64 a1_0, .int .i64 a1_1, .int .i64 a1_2, .int .i64 a1_3, .slice A1_4 l1_4.length c1_4, .slice A1_5 l1_5.length c1_5]] (by rfl) rfl rfl (by (try simp only [List.map_toArray, List.map_cons, List.map_nil]); first | done | rfl | (simp only [List.length_drop, List.length_take]; rfl)) ?_
      with_reducible refine (laws_toResp.calls k a1_0 a1_1 a1_2 a1_3 _ _ l1_4 _ _ l1_5 t290 t291 t292 t293 t294 t297 _ ?side1 ?side2 ?side3 ?side4 A20.out).mono ?_
      (case side1 => exact cB HR1_4.out HB.out)
      (case side2 => exact HC1_4.out)
      (case side3 => exact cB HR1_5.out HB.out)
      (case side4 => exact HC1_5.out)
      rintro e w119 ⟨v295, v298, rfl, ho0, ho1, hb⟩
      refine ⟨_, rfl, ?_⟩
      have n0_ := aM (Kd.R_elder' (rA HO285.out) (Kd.R_base ho0) hb)
      have n1_ := aM (Kd.R_elder' (rA HO288.out) (Kd.R_base ho1) hb)
      have n2_ := aM (Kd.R_lower (Kd.R_new' ho0 (Kd.R_lt (rA HO285.out))) (below_size (bS HB.out)))
      have n3_ := aM (Kd.R_lower (Kd.R_new' ho1 (Kd.R_lt (rA HO288.out))) (below_size (bS HB.out)))
      have n4_ := aM (kB BK276.out hb)
      have n5_ := aM (kB BK277.out hb)
      have n6_ := aM (below_step (bS HB.out) hb)
      clear HO285
      clear HO288
      clear BK276
      clear BK277
      clear HB
      have HO285 := n0_
      have HO288 := n1_
      have HO296 := n2_
      have HO299 := n3_
      have BK276 := n4_
      have BK277 := n5_
      have HB := n6_
      clear n0_ n1_ n2_ n3_ n4_ n5_ n6_
      (try clear hb)
      (try clear hb2)
      (try clear hk)
      (try clear hi)
      (try clear ho0)
      (try clear ho1)
      obtain ⟨Ao120, co120, eo120⟩ := Kd.R_slice HO285.out
      (first | subst eo120 | (injection eo120 with f1_ f2_ f3_; have f4_ := f1_.symm; have f5_ := f3_.symm; clear f1_ f2_ f3_; subst f4_; subst f5_))
      obtain ⟨Ao121, co121, eo121⟩ := Kd.R_slice HO288.out
      (first | subst eo121 | (injection eo121 with f1_ f2_ f3_; have f4_ := f1_.symm; have f5_ := f3_.symm; clear f1_ f2_ f3_; subst f4_; subst f5_))
      obtain ⟨Ao122, co122, eo122⟩ := Kd.R_slice HO296.out
      (first | subst eo122 | (injection eo122 with f1_ f2_ f3_; have f4_ := f1_.symm; have f5_ := f3_.symm; clear f1_ f2_ f3_; subst f4_; subst f5_))
      obtain ⟨Ao123, co123, eo123⟩ := Kd.R_slice HO299.out
      (first | subst eo123 | (injection eo123 with f1_ f2_ f3_; have f4_ := f1_.symm; have f5_ := f3_.symm; clear f1_ f2_ f3_; subst f4_; subst f5_))
      refine hK.out _ _ ⟨(blk_cell BK276.out 0).trans rfl, (blk_cell BK276.out 1).trans rfl, (blk_cell BK276.out 2).trans rfl, (blk_cell BK276.out 3).trans rfl, (blk_cell BK276.out 4).trans rfl, (blk_cell BK276.out 5).trans rfl, (blk_cell BK277.out 0).trans rfl, (blk_cell BK277.out 1).trans rfl, (blk_cell BK277.out 2).trans rfl, (blk_cell BK277.out 3).trans rfl, (blk_cell BK277.out 4).trans rfl, (blk_cell BK277.out 5).trans rfl⟩ (fun hHeld => ?_)
      clear hK K
      refine norm_ (a' := ?_) ?_ ?_
      rotate_left
      ·show Act.put _ (some 23) _ = _
       simp only [Act.put, List.setIfInBounds_toArray, List.set_cons_zero, List.set_cons_succ, i64_w, i32_w]
       rfl
      refine one_ (i := 4) (N := some 24) #[true, true, true, true, true, false] rfl rfl (by kernel_rfl) (by decide) (fun K hK => ?_)
      refine goes_ Try.func23 (by kernel_rfl) rfl #[.agg #[.int .i64 t280, .int .i64 t281, .int .i64 t282, .slice Ao120 t283.length co120, .slice Ao121 t286.length co121, .int .i64 t289], .agg #[.int .i64 t290, .int .i64 t291, .int .i64 t292, .int .i64 t293, .slice Ao122 t294.length co122, .slice Ao123 t297.length co123]] (by rfl) rfl rfl (by (try simp only [List.map_toArray, List.map_cons, List.map_nil]); first | done | rfl | (simp only [List.length_drop, List.length_take]; rfl)) ?_
      with_reducible refine (spec_Suits.calls k t280 t281 t282 _ _ t283 _ _ t286 t289 t290 t291 t292 t293 _ _ t294 _ _ t297 t300 _ ?side1 ?side2 ?side3 ?side4 ?side5 ?side6 ?side7 ?side8 A21.out).mono ?_
      (case side1 => exact cR HO285.out)
      (case side2 => exact (Kd.R_reads' HO285.out).2.1)
      (case side3 => exact cR HO288.out)
      (case side4 => exact (Kd.R_reads' HO288.out).2.1)
      (case side5 => exact cR HO296.out)
      (case side6 => exact (Kd.R_reads' HO296.out).2.1)
      (case side7 => exact cR HO299.out)
      (case side8 => exact (Kd.R_reads' HO299.out).2.1)
      rintro e w124 ⟨rfl, hb⟩
      refine ⟨_, rfl, ?_⟩
      have n0_ := aM (rB HO285.out hb)
      have n1_ := aM (rB HO288.out hb)
      have n2_ := aM (rB HO296.out hb)
      have n3_ := aM (rB HO299.out hb)
      have n4_ := aM (kB BK276.out hb)
      have n5_ := aM (kB BK277.out hb)
      have n6_ := aM (below_step (bS HB.out) hb)
      clear HO285
      clear HO288
      clear HO296
      clear HO299
      clear BK276
      clear BK277
      clear HB
      have HO285 := n0_
      have HO288 := n1_
      have HO296 := n2_
      have HO299 := n3_
      have BK276 := n4_
      have BK277 := n5_
      have HB := n6_
      clear n0_ n1_ n2_ n3_ n4_ n5_ n6_
      (try clear hb)
      (try clear hb2)
      (try clear hk)
      (try clear hi)
      refine hK.out _ _ ⟨(blk_cell BK276.out 0).trans rfl, (blk_cell BK276.out 1).trans rfl, (blk_cell BK276.out 2).trans rfl, (blk_cell BK276.out 3).trans rfl, (blk_cell BK276.out 4).trans rfl, (blk_cell BK276.out 5).trans rfl, (blk_cell BK277.out 0).trans rfl, (blk_cell BK277.out 1).trans rfl, (blk_cell BK277.out 2).trans rfl, (blk_cell BK277.out 3).trans rfl, (blk_cell BK277.out 4).trans rfl, (blk_cell BK277.out 5).trans rfl⟩ (fun hHeld => ?_)
      clear hK K
      refine norm_ (a' := ?_) ?_ ?_
      rotate_left
      ·show Act.put _ (some 24) _ = _
       simp only [Act.put, List.setIfInBounds_toArray, List.set_cons_zero, List.set_cons_succ, i64_w, i32_w]
       rfl
      refine pure_ (i := 5) (N := some 6) (v := ?_) (a' := ?_) #[true, true, true, true, true, true] rfl rfl (by kernel_rfl) (fun _ _ _ h => h) (Or.inl ⟨by rfl, ?_⟩) ?_ ?_
      rotate_left
      ·intro w'
       go_simp
       with_reducible rfl
      rotate_left
      ·simp only [Act.put, List.setIfInBounds_toArray, List.set_cons_zero, List.set_cons_succ, i64_w, i32_w]
       rfl
      refine done_ (by kernel_rfl) ?_
      obtain ⟨hcz125_0, hfz125_0, hcz125_1, hfz125_1, hcz125_2, hfz125_2, hcz125_3, hfz125_3, hcz125_4, hfz125_4, hcz125_5, hfz125_5⟩ := bk6 BK276.out
      try go_wp2_with (first | ((with_reducible refine gate_callee (f := 15) rfl ?_); refine gL (some 26) rfl rfl Try.func15 (by kernel_rfl) rfl #[.agg #[.int .i64 a0_0, .int .i64 a0_1, .int .i64 a0_2, .slice A0_3 l0_3.length c0_3, .slice A0_4 l0_4.length c0_4, .int .i64 a0_5]] rfl ?_; (with_reducible refine (laws_toReq.calls k a0_0 a0_1 a0_2 _ _ l0_3 _ _ l0_4 a0_5 t301 t302 t303 t304 t307 t310 _ ?side1 ?side2 ?side3 ?side4 A22.out).mono ?_); (case side1 => exact cB HR0_3.out HB.out); (case side2 => exact HC0_3.out); (case side3 => exact cB HR0_4.out HB.out); (case side4 => exact HC0_4.out); rintro e w126 ⟨v305, v308, rfl, ho0, ho1, hb⟩; refine ⟨_, rfl, ?_⟩; have _ := aM (Kd.R_elder' (rA HO285.out) (Kd.R_base ho0) hb); have _ := aM (Kd.R_elder' (rA HO288.out) (Kd.R_base ho1) hb); have _ := aM (Kd.R_elder' (rA HO296.out) (Kd.R_base ho0) hb); have _ := aM (Kd.R_elder' (rA HO299.out) (Kd.R_base ho1) hb); have _ := aM (Kd.R_lower (Kd.R_new' (Kd.R_new' ho0 (Kd.R_lt (rA HO285.out))) (Kd.R_lt (rA HO296.out))) (below_size (bS HB.out))); have _ := aM (Kd.R_lower (Kd.R_new' (Kd.R_new' ho1 (Kd.R_lt (rA HO288.out))) (Kd.R_lt (rA HO299.out))) (below_size (bS HB.out))); have _ := aM (kB BK276.out hb); have _ := aM (kB BK277.out hb); have _ := aM (below_step (bS HB.out) hb); clear HO285 HO288 HO296 HO299 BK276 BK277 HB; rename_i HO285 HO288 HO296 HO299 HO306 HO309 BK276 BK277 HB; (try clear hb); (try clear ho0); (try clear ho1)) | ((with_reducible refine gate_dst (N := 7) rfl ?_); refine box_event ?hg (N := 7) ?hd (cs := #[.int .i64 0, .int .i64 0, .int .i64 0, .slice none 0 0, .slice none 0 0, .int .i64 0]) (t := 36) ?hr ?_; (case hd => rfl); (case hg => rfl); (case hr => first | (go_simp; done) | (go_simp; rfl)); intro gb311 hg w127 hbox hb; have _ := aM (rB HO285.out hb); have _ := aM (rB HO288.out hb); have _ := aM (rB HO296.out hb); have _ := aM (rB HO299.out hb); have _ := aM (rB HO306.out hb); have _ := aM (rB HO309.out hb); have _ := aM (kB BK276.out hb); have _ := aM (kB BK277.out hb); have _ := aM (below_step (bS HB.out) hb); have _ := aM (hbox); have _ := aM (leG hg (bS HB.out)); have _ := aM (leG hg (bS HB.out)); have _ := aM (neL hg (kA BK276.out)); have _ := aM (neG hg (kA BK276.out)); have _ := aM (neL hg (kA BK277.out)); have _ := aM (neG hg (kA BK277.out)); clear HO285 HO288 HO296 HO299 HO306 HO309 BK276 BK277 HB; rename_i HO285 HO288 HO296 HO299 HO306 HO309 BK276 BK277 HB BK311 GW311 GE311 NB276_311 NB311_276 NB277_311 NB311_277; clear hb hbox hg; have hnb128 := NB311_276.out; have hnc128 := NB276_311.out; have hnb129 := NB311_277.out; have hnc129 := NB277_311.out; obtain ⟨hcz130_0, hfz130_0, hcz130_1, hfz130_1, hcz130_2, hfz130_2, hcz130_3, hfz130_3, hcz130_4, hfz130_4, hcz130_5, hfz130_5⟩ := bk6 BK311.out; obtain ⟨Ao131, co131, eo131⟩ := Kd.R_slice HO306.out; subst eo131; obtain ⟨Ao132, co132, eo132⟩ := Kd.R_slice HO309.out; subst eo132; obtain ⟨hcz133_0, hfz133_0, hcz133_1, hfz133_1, hcz133_2, hfz133_2, hcz133_3, hfz133_3, hcz133_4, hfz133_4, hcz133_5, hfz133_5⟩ := bk6 BK277.out) | ((with_reducible refine gate_callee (f := 10) rfl ?_); refine gL (some 28) rfl rfl Try.func10 (by kernel_rfl) rfl #[.agg #[.int .i64 a1_0, .int .i64 a1_1, .int .i64 a1_2, .int .i64 a1_3, .slice A1_4 l1_4.length c1_4, .slice A1_5 l1_5.length c1_5]] rfl ?_; (with_reducible refine (laws_toResp.calls k a1_0 a1_1 a1_2 a1_3 _ _ l1_4 _ _ l1_5 t312 t313 t314 t315 t316 t319 _ ?side1 ?side2 ?side3 ?side4 A23.out).mono ?_); (case side1 => exact Kd.C_below HR1_4.out (bS HB.out)); (case side2 => exact HC1_4.out); (case side3 => exact Kd.C_below HR1_5.out (bS HB.out)); (case side4 => exact HC1_5.out); rintro e w134 ⟨v317, v320, rfl, ho0, ho1, hb⟩; refine ⟨_, rfl, ?_⟩; have _ := aM (Kd.R_elder' (rF6 HO285.out BK311.out) (Kd.R_base ho0) hb); have _ := aM (Kd.R_elder' (rF6 HO288.out BK311.out) (Kd.R_base ho1) hb); have _ := aM (Kd.R_elder' (rF6 HO296.out BK311.out) (Kd.R_base ho0) hb); have _ := aM (Kd.R_elder' (rF6 HO299.out BK311.out) (Kd.R_base ho1) hb); have _ := aM (Kd.R_elder' (rF6 HO306.out BK311.out) (Kd.R_base ho0) hb); have _ := aM (Kd.R_elder' (rF6 HO309.out BK311.out) (Kd.R_base ho1) hb); have _ := aM (Kd.R_lower (Kd.R_new' (Kd.R_new' (Kd.R_new' ho0 (Kd.R_lt (rF6 HO285.out BK311.out))) (Kd.R_lt (rF6 HO296.out BK311.out))) (Kd.R_lt (rF6 HO306.out BK311.out))) (below_size (bS HB.out))); have _ := aM (Kd.R_lower (Kd.R_new' (Kd.R_new' (Kd.R_new' ho1 (Kd.R_lt (rF6 HO288.out BK311.out))) (Kd.R_lt (rF6 HO299.out BK311.out))) (Kd.R_lt (rF6 HO309.out BK311.out))) (below_size (bS HB.out))); have _ := aM (blk_below (kF6 BK276.out NB276_311.out) hb); have _ := aM (blk_below (kF6 BK277.out NB277_311.out) hb); have _ := aM (blk_below (kP6 BK311.out) hb); have _ := aM (below_step (bS HB.out) hb); clear HO285 HO288 HO296 HO299 HO306 HO309 BK276 BK277 BK311 HB; rename_i HO285 HO288 HO296 HO299 HO306 HO309 HO318 HO321 BK276 BK277 BK311 HB; (try clear hb); (try clear ho0); (try clear ho1)) | ((with_reducible refine gate_dst (N := 8) rfl ?_); refine box_event ?hg (N := 8) ?hd (cs := #[.int .i64 0, .int .i64 0, .int .i64 0, .int .i64 0, .slice none 0 0, .slice none 0 0]) (t := 28) ?hr ?_; (case hd => rfl); (case hg => rfl); (case hr => first | (go_simp; done) | (go_simp; rfl)); intro gb322 hg w135 hbox hb; have _ := aM (rB HO285.out hb); have _ := aM (rB HO288.out hb); have _ := aM (rB HO296.out hb); have _ := aM (rB HO299.out hb); have _ := aM (rB HO306.out hb); have _ := aM (rB HO309.out hb); have _ := aM (rB HO318.out hb); have _ := aM (rB HO321.out hb); have _ := aM (kB BK276.out hb); have _ := aM (kB BK277.out hb); have _ := aM (kB BK311.out hb); have _ := aM (below_step (bS HB.out) hb); have _ := aM (hbox); have _ := aM (leG hg (bS HB.out)); have _ := aM (leG hg (bS HB.out)); have _ := aM (neL hg (kA BK276.out)); have _ := aM (neG hg (kA BK276.out)); have _ := aM (neL hg (kA BK277.out)); have _ := aM (neG hg (kA BK277.out)); have _ := aM (neL hg (kA BK311.out)); have _ := aM (neG hg (kA BK311.out)); clear HO285 HO288 HO296 HO299 HO306 HO309 HO318 HO321 BK276 BK277 BK311 HB; rename_i HO285 HO288 HO296 HO299 HO306 HO309 HO318 HO321 BK276 BK277 BK311 HB BK322 GW322 GE322 NB276_322 NB322_276 NB277_322 NB322_277 NB311_322 NB322_311; clear hb hbox hg; have hnb136 := NB322_276.out; have hnc136 := NB276_322.out; have hnb137 := NB322_277.out; have hnc137 := NB277_322.out; have hnb138 := NB322_311.out; have hnc138 := NB311_322.out; obtain ⟨hcz139_0, hfz139_0, hcz139_1, hfz139_1, hcz139_2, hfz139_2, hcz139_3, hfz139_3, hcz139_4, hfz139_4, hcz139_5, hfz139_5⟩ := bk6 BK322.out; obtain ⟨Ao140, co140, eo140⟩ := Kd.R_slice HO318.out; subst eo140; obtain ⟨Ao141, co141, eo141⟩ := Kd.R_slice HO321.out; subst eo141; obtain ⟨hcz142_0, hfz142_0, hcz142_1, hfz142_1, hcz142_2, hfz142_2, hcz142_3, hfz142_3, hcz142_4, hfz142_4, hcz142_5, hfz142_5⟩ := bk6 BK311.out) | ((with_reducible refine gate_callee (f := 24) rfl ?_); refine gL (some 31) rfl rfl Try.func24 (by kernel_rfl) rfl #[.agg #[.int .i64 t301, .int .i64 t302, .int .i64 t303, .slice Ao131 t304.length co131, .slice Ao132 t307.length co132, .int .i64 t310], .agg #[.int .i64 t312, .int .i64 t313, .int .i64 t314, .int .i64 t315, .slice Ao140 t316.length co140, .slice Ao141 t319.length co141]] rfl ?_; (with_reducible refine (impl_Suits.calls k t301 t302 t303 _ _ t304 _ _ t307 t310 t312 t313 t314 t315 _ _ t316 _ _ t319 t323 _ ?side1 ?side2 ?side3 ?side4 ?side5 ?side6 ?side7 ?side8 A24.out).mono ?_); (case side1 => exact (Kd.R_reads' (rF6 HO306.out BK322.out)).2.2); (case side2 => exact (Kd.R_reads' HO306.out).2.1); (case side3 => exact (Kd.R_reads' (rF6 HO309.out BK322.out)).2.2); (case side4 => exact (Kd.R_reads' HO309.out).2.1); (case side5 => exact (Kd.R_reads' (rF6 HO318.out BK322.out)).2.2); (case side6 => exact (Kd.R_reads' HO318.out).2.1); (case side7 => exact (Kd.R_reads' (rF6 HO321.out BK322.out)).2.2); (case side8 => exact (Kd.R_reads' HO321.out).2.1); rintro e w143 ⟨rfl, hb⟩; refine ⟨_, rfl, ?_⟩; have _ := aM (Kd.R_below (rF6 HO285.out BK322.out) hb); have _ := aM (Kd.R_below (rF6 HO288.out BK322.out) hb); have _ := aM (Kd.R_below (rF6 HO296.out BK322.out) hb); have _ := aM (Kd.R_below (rF6 HO299.out BK322.out) hb); have _ := aM (Kd.R_below (rF6 HO306.out BK322.out) hb); have _ := aM (Kd.R_below (rF6 HO309.out BK322.out) hb); have _ := aM (Kd.R_below (rF6 HO318.out BK322.out) hb); have _ := aM (Kd.R_below (rF6 HO321.out BK322.out) hb); have _ := aM (blk_below (kF6 BK276.out NB276_322.out) hb); have _ := aM (blk_below (kF6 BK277.out NB277_322.out) hb); have _ := aM (blk_below (kF6 BK311.out NB311_322.out) hb); have _ := aM (blk_below (kP6 BK322.out) hb); have _ := aM (below_step (bS HB.out) hb); clear HO285 HO288 HO296 HO299 HO306 HO309 HO318 HO321 BK276 BK277 BK311 BK322 HB; rename_i HO285 HO288 HO296 HO299 HO306 HO309 HO318 HO321 BK276 BK277 BK311 BK322 HB; (try clear hb)))
      have n0_ := aM (Kd.R_drew HO285.out)
      have n1_ := aM (Kd.R_drew HO288.out)
      have n2_ := aM (Kd.R_drew HO296.out)
      have n3_ := aM (Kd.R_drew HO299.out)
      have n4_ := aM (Kd.R_drew HO306.out)
      have n5_ := aM (Kd.R_drew HO309.out)
      have n6_ := aM (Kd.R_drew HO318.out)
      have n7_ := aM (Kd.R_drew HO321.out)
      have n8_ := aM (blk_drew BK276.out)
      have n9_ := aM (blk_drew BK277.out)
      have n10_ := aM (blk_drew BK311.out)
      have n11_ := aM (blk_drew BK322.out)
      have n12_ := aM (below_drew1 HB.out)
      clear HO285
      clear HO288
      clear HO296
      clear HO299
      clear HO306
      clear HO309
      clear HO318
      clear HO321
      clear BK276
      clear BK277
      clear BK311
      clear BK322
      clear HB
      have HO285 := n0_
      have HO288 := n1_
      have HO296 := n2_
      have HO299 := n3_
      have HO306 := n4_
      have HO309 := n5_
      have HO318 := n6_
      have HO321 := n7_
      have BK276 := n8_
      have BK277 := n9_
      have BK311 := n10_
      have BK322 := n11_
      have HB := n12_
      clear n0_ n1_ n2_ n3_ n4_ n5_ n6_ n7_ n8_ n9_ n10_ n11_ n12_
      refine start_ (n := 5) (S := fun w' => w'.cell? ⟨gb311, 0, none⟩ = some (.int .i64 t301) ∧ w'.cell? ⟨gb311, 1, none⟩ = some (.int .i64 t302) ∧ w'.cell? ⟨gb311, 2, none⟩ = some (.int .i64 t303) ∧ w'.cell? ⟨gb311, 3, none⟩ = some (.slice Ao131 t304.length co131) ∧ w'.cell? ⟨gb311, 4, none⟩ = some (.slice Ao132 t307.length co132) ∧ w'.cell? ⟨gb311, 5, none⟩ = some (.int .i64 t310) ∧ w'.cell? ⟨gb276, 0, none⟩ = some (.int .i64 a0_0) ∧ w'.cell? ⟨gb276, 1, none⟩ = some (.int .i64 a0_1) ∧ w'.cell? ⟨gb276, 2, none⟩ = some (.int .i64 a0_2) ∧ w'.cell? ⟨gb276, 3, none⟩ = some (.slice A0_3 l0_3.length c0_3) ∧ w'.cell? ⟨gb276, 4, none⟩ = some (.slice A0_4 l0_4.length c0_4) ∧ w'.cell? ⟨gb276, 5, none⟩ = some (.int .i64 a0_5)) (ds := []) #[false, false, false, false, false] (by kernel_rfl) rfl rfl ⟨(blk_cell BK311.out 0).trans rfl, (blk_cell BK311.out 1).trans rfl, (blk_cell BK311.out 2).trans rfl, (blk_cell BK311.out 3).trans rfl, (blk_cell BK311.out 4).trans rfl, (blk_cell BK311.out 5).trans rfl, (blk_cell BK276.out 0).trans rfl, (blk_cell BK276.out 1).trans rfl, (blk_cell BK276.out 2).trans rfl, (blk_cell BK276.out 3).trans rfl, (blk_cell BK276.out 4).trans rfl, (blk_cell BK276.out 5).trans rfl⟩ (fun hHeld => ?_)
      generalize w143.drew = w144 at HO285 HO288 HO296 HO299 HO306 HO309 HO318 HO321 BK276 BK277 BK311 BK322 HB hHeld ⊢
      refine take_ (i := 0) (N := some 35) (v := ?_) (a' := ?_) #[true, false, false, false, false] rfl rfl (by kernel_rfl) (fun _ _ _ h => h) (Or.inl ⟨by rfl, ?_⟩) hHeld ?_ ?_
      rotate_left
      ·rintro w' ⟨s0, s1, s2, s3, s4, s5, s6, s7, s8, s9, s10, s11⟩
       go_simp
       with_reducible rfl
      rotate_left
      ·simp only [Act.put, List.setIfInBounds_toArray, List.set_cons_zero, List.set_cons_succ, i64_w, i32_w]
       rfl
      refine take_ (i := 1) (N := some 36) (v := ?_) (a' := ?_) #[true, true, false, false, false] rfl rfl (by kernel_rfl) (fun _ _ _ h => h) (Or.inl ⟨by rfl, ?_⟩) hHeld ?_ ?_
      rotate_left
      ·rintro w' ⟨s0, s1, s2, s3, s4, s5, s6, s7, s8, s9, s10, s11⟩
       go_simp
       with_reducible rfl
      rotate_left
      ·simp only [Act.put, List.setIfInBounds_toArray, List.set_cons_zero, List.set_cons_succ, i64_w, i32_w]
       rfl
      refine one_ (i := 2) (N := some 37) #[true, true, true, false, false] rfl rfl (by kernel_rfl) (by decide) (fun K hK => ?_)
      refine goes_ Try.func15 (by kernel_rfl) rfl #[.agg #[.int .i64 a0_0, .int .i64 a0_1, .int .i64 a0_2, .slice A0_3 l0_3.length c0_3, .slice A0_4 l0_4.length c0_4, .int .i64 a0_5]] (by rfl) rfl rfl (by (try simp only [List.map_toArray, List.map_cons, List.map_nil]); first | done | rfl | (simp only [List.length_drop, List.length_take]; rfl)) ?_
      with_reducible refine (laws_toReq.calls k a0_0 a0_1 a0_2 _ _ l0_3 _ _ l0_4 a0_5 t324 t325 t326 t327 t330 t333 _ ?side1 ?side2 ?side3 ?side4 A60.out).mono ?_
      (case side1 => exact cB HR0_3.out HB.out)
      (case side2 => exact HC0_3.out)
      (case side3 => exact cB HR0_4.out HB.out)
      (case side4 => exact HC0_4.out)
      rintro e w145 ⟨v328, v331, rfl, ho0, ho1, hb⟩
      refine ⟨_, rfl, ?_⟩
      have n0_ := aM (Kd.R_elder' (rA HO285.out) (Kd.R_base ho0) hb)
      have n1_ := aM (Kd.R_elder' (rA HO288.out) (Kd.R_base ho1) hb)
      have n2_ := aM (Kd.R_elder' (rA HO296.out) (Kd.R_base ho0) hb)
      have n3_ := aM (Kd.R_elder' (rA HO299.out) (Kd.R_base ho1) hb)
      have n4_ := aM (Kd.R_elder' (rA HO306.out) (Kd.R_base ho0) hb)
      have n5_ := aM (Kd.R_elder' (rA HO309.out) (Kd.R_base ho1) hb)
      have n6_ := aM (Kd.R_elder' (rA HO318.out) (Kd.R_base ho0) hb)
      have n7_ := aM (Kd.R_elder' (rA HO321.out) (Kd.R_base ho1) hb)
      have n8_ := aM (Kd.R_lower (Kd.R_new' (Kd.R_new' (Kd.R_new' (Kd.R_new' ho0 (Kd.R_lt (rA HO285.out))) (Kd.R_lt (rA HO296.out))) (Kd.R_lt (rA HO306.out))) (Kd.R_lt (rA HO318.out))) (below_size (bS HB.out)))
      have n9_ := aM (Kd.R_lower (Kd.R_new' (Kd.R_new' (Kd.R_new' (Kd.R_new' ho1 (Kd.R_lt (rA HO288.out))) (Kd.R_lt (rA HO299.out))) (Kd.R_lt (rA HO309.out))) (Kd.R_lt (rA HO321.out))) (below_size (bS HB.out)))
      have n10_ := aM (kB BK276.out hb)
      have n11_ := aM (kB BK277.out hb)
      have n12_ := aM (kB BK311.out hb)
      have n13_ := aM (kB BK322.out hb)
      have n14_ := aM (below_step (bS HB.out) hb)
      clear HO285
      clear HO288
      clear HO296
      clear HO299
      clear HO306
      clear HO309
      clear HO318
      clear HO321
      clear BK276
      clear BK277
      clear BK311
      clear BK322
      clear HB
      have HO285 := n0_
      have HO288 := n1_
      have HO296 := n2_
      have HO299 := n3_
      have HO306 := n4_
      have HO309 := n5_
      have HO318 := n6_
      have HO321 := n7_
      have HO329 := n8_
      have HO332 := n9_
      have BK276 := n10_
      have BK277 := n11_
      have BK311 := n12_
      have BK322 := n13_
      have HB := n14_
      clear n0_ n1_ n2_ n3_ n4_ n5_ n6_ n7_ n8_ n9_ n10_ n11_ n12_ n13_ n14_
      (try clear hb)
      (try clear hb2)
      (try clear hk)
      (try clear hi)
      (try clear ho0)
      (try clear ho1)
      obtain ⟨Ao146, co146, eo146⟩ := Kd.R_slice HO329.out
      (first | subst eo146 | (injection eo146 with f1_ f2_ f3_; have f4_ := f1_.symm; have f5_ := f3_.symm; clear f1_ f2_ f3_; subst f4_; subst f5_))
      obtain ⟨Ao147, co147, eo147⟩ := Kd.R_slice HO332.out
      (first | subst eo147 | (injection eo147 with f1_ f2_ f3_; have f4_ := f1_.symm; have f5_ := f3_.symm; clear f1_ f2_ f3_; subst f4_; subst f5_))
      refine hK.out _ _ ⟨(blk_cell BK311.out 0).trans rfl, (blk_cell BK311.out 1).trans rfl, (blk_cell BK311.out 2).trans rfl, (blk_cell BK311.out 3).trans rfl, (blk_cell BK311.out 4).trans rfl, (blk_cell BK311.out 5).trans rfl, (blk_cell BK276.out 0).trans rfl, (blk_cell BK276.out 1).trans rfl, (blk_cell BK276.out 2).trans rfl, (blk_cell BK276.out 3).trans rfl, (blk_cell BK276.out 4).trans rfl, (blk_cell BK276.out 5).trans rfl⟩ (fun hHeld => ?_)
      clear hK K
      refine norm_ (a' := ?_) ?_ ?_
      rotate_left
      ·show Act.put _ (some 37) _ = _
       simp only [Act.put, List.setIfInBounds_toArray, List.set_cons_zero, List.set_cons_succ, i64_w, i32_w]
       rfl
      refine one_ (i := 3) (N := some 38) #[true, true, true, true, false] rfl rfl (by kernel_rfl) (by decide) (fun K hK => ?_)
      refine goes_ Try.func17 (by kernel_rfl) rfl #[.agg #[.int .i64 t301, .int .i64 t302, .int .i64 t303, .slice Ao131 t304.length co131, .slice Ao132 t307.length co132, .int .i64 t310], .agg #[.int .i64 t324, .int .i64 t325, .int .i64 t326, .slice Ao146 t327.length co146, .slice Ao147 t330.length co147, .int .i64 t333]] (by rfl) rfl rfl (by (try simp only [List.map_toArray, List.map_cons, List.map_nil]); first | done | rfl | (simp only [List.length_drop, List.length_take]; rfl)) ?_
      with_reducible refine (laws_eqReq.calls k t301 t302 t303 _ _ t304 _ _ t307 t310 t324 t325 t326 _ _ t327 _ _ t330 t333 true _ ?side1 ?side2 ?side3 ?side4 ?side5 ?side6 ?side7 ?side8 A61.out).mono ?_
      (case side1 => exact cR HO306.out)
      (case side2 => exact (Kd.R_reads' HO306.out).2.1)
      (case side3 => exact cR HO309.out)
      (case side4 => exact (Kd.R_reads' HO309.out).2.1)
      (case side5 => exact cR HO329.out)
      (case side6 => exact (Kd.R_reads' HO329.out).2.1)
      (case side7 => exact cR HO332.out)
      (case side8 => exact (Kd.R_reads' HO332.out).2.1)
      rintro e w148 ⟨rfl, hb⟩
      refine ⟨_, rfl, ?_⟩
      have n0_ := aM (rB HO285.out hb)
      have n1_ := aM (rB HO288.out hb)
      have n2_ := aM (rB HO296.out hb)
      have n3_ := aM (rB HO299.out hb)
      have n4_ := aM (rB HO306.out hb)
      have n5_ := aM (rB HO309.out hb)
      have n6_ := aM (rB HO318.out hb)
      have n7_ := aM (rB HO321.out hb)
      have n8_ := aM (rB HO329.out hb)
      have n9_ := aM (rB HO332.out hb)
      have n10_ := aM (kB BK276.out hb)
      have n11_ := aM (kB BK277.out hb)
      have n12_ := aM (kB BK311.out hb)
      have n13_ := aM (kB BK322.out hb)
      have n14_ := aM (below_step (bS HB.out) hb)
      clear HO285
      clear HO288
      clear HO296
      clear HO299
      clear HO306
      clear HO309
      clear HO318
      clear HO321
      clear HO329
      clear HO332
      clear BK276
      clear BK277
      clear BK311
      clear BK322
      clear HB
      have HO285 := n0_
      have HO288 := n1_
      have HO296 := n2_
      have HO299 := n3_
      have HO306 := n4_
      have HO309 := n5_
      have HO318 := n6_
      have HO321 := n7_
      have HO329 := n8_
      have HO332 := n9_
      have BK276 := n10_
      have BK277 := n11_
      have BK311 := n12_
      have BK322 := n13_
      have HB := n14_
      clear n0_ n1_ n2_ n3_ n4_ n5_ n6_ n7_ n8_ n9_ n10_ n11_ n12_ n13_ n14_
      (try clear hb)
      (try clear hb2)
      (try clear hk)
      (try clear hi)
      refine hK.out _ _ ⟨(blk_cell BK311.out 0).trans rfl, (blk_cell BK311.out 1).trans rfl, (blk_cell BK311.out 2).trans rfl, (blk_cell BK311.out 3).trans rfl, (blk_cell BK311.out 4).trans rfl, (blk_cell BK311.out 5).trans rfl, (blk_cell BK276.out 0).trans rfl, (blk_cell BK276.out 1).trans rfl, (blk_cell BK276.out 2).trans rfl, (blk_cell BK276.out 3).trans rfl, (blk_cell BK276.out 4).trans rfl, (blk_cell BK276.out 5).trans rfl⟩ (fun hHeld => ?_)
      clear hK K
      refine norm_ (a' := ?_) ?_ ?_
      rotate_left
      ·show Act.put _ (some 38) _ = _
       simp only [Act.put, List.setIfInBounds_toArray, List.set_cons_zero, List.set_cons_succ, i64_w, i32_w]
       rfl
      refine pure_ (i := 4) (N := some 39) (v := ?_) (a' := ?_) #[true, true, true, true, true] rfl rfl (by kernel_rfl) (fun _ _ _ h => h) (Or.inl ⟨by rfl, ?_⟩) ?_ ?_
      rotate_left
      ·intro w'
       go_simp
       with_reducible rfl
      rotate_left
      ·simp only [Act.put, List.setIfInBounds_toArray, List.set_cons_zero, List.set_cons_succ, i64_w, i32_w]
       rfl
      refine done_ (by kernel_rfl) ?_
      try go_wp2
      have n0_ := aM (Kd.R_drew HO285.out)
      have n1_ := aM (Kd.R_drew HO288.out)
      have n2_ := aM (Kd.R_drew HO296.out)
      have n3_ := aM (Kd.R_drew HO299.out)
      have n4_ := aM (Kd.R_drew HO306.out)
      have n5_ := aM (Kd.R_drew HO309.out)
      have n6_ := aM (Kd.R_drew HO318.out)
      have n7_ := aM (Kd.R_drew HO321.out)
      have n8_ := aM (Kd.R_drew HO329.out)
      have n9_ := aM (Kd.R_drew HO332.out)
      have n10_ := aM (blk_drew BK276.out)
      have n11_ := aM (blk_drew BK277.out)
      have n12_ := aM (blk_drew BK311.out)
      have n13_ := aM (blk_drew BK322.out)
      have n14_ := aM (below_drew1 HB.out)
      clear HO285
      clear HO288
      clear HO296
      clear HO299
      clear HO306
      clear HO309
      clear HO318
      clear HO321
      clear HO329
      clear HO332
      clear BK276
      clear BK277
      clear BK311
      clear BK322
      clear HB
      have HO285 := n0_
      have HO288 := n1_
      have HO296 := n2_
      have HO299 := n3_
      have HO306 := n4_
      have HO309 := n5_
      have HO318 := n6_
      have HO321 := n7_
      have HO329 := n8_
      have HO332 := n9_
      have BK276 := n10_
      have BK277 := n11_
      have BK311 := n12_
      have BK322 := n13_
      have HB := n14_
      clear n0_ n1_ n2_ n3_ n4_ n5_ n6_ n7_ n8_ n9_ n10_ n11_ n12_ n13_ n14_
      refine start_ (n := 5) (S := fun w' => w'.cell? ⟨gb322, 0, none⟩ = some (.int .i64 t312) ∧ w'.cell? ⟨gb322, 1, none⟩ = some (.int .i64 t313) ∧ w'.cell? ⟨gb322, 2, none⟩ = some (.int .i64 t314) ∧ w'.cell? ⟨gb322, 3, none⟩ = some (.int .i64 t315) ∧ w'.cell? ⟨gb322, 4, none⟩ = some (.slice Ao140 t316.length co140) ∧ w'.cell? ⟨gb322, 5, none⟩ = some (.slice Ao141 t319.length co141) ∧ w'.cell? ⟨gb277, 0, none⟩ = some (.int .i64 a1_0) ∧ w'.cell? ⟨gb277, 1, none⟩ = some (.int .i64 a1_1) ∧ w'.cell? ⟨gb277, 2, none⟩ = some (.int .i64 a1_2) ∧ w'.cell? ⟨gb277, 3, none⟩ = some (.int .i64 a1_3) ∧ w'.cell? ⟨gb277, 4, none⟩ = some (.slice A1_4 l1_4.length c1_4) ∧ w'.cell? ⟨gb277, 5, none⟩ = some (.slice A1_5 l1_5.length c1_5)) (ds := []) #[false, false, false, false, false] (by kernel_rfl) rfl rfl ⟨(blk_cell BK322.out 0).trans rfl, (blk_cell BK322.out 1).trans rfl, (blk_cell BK322.out 2).trans rfl, (blk_cell BK322.out 3).trans rfl, (blk_cell BK322.out 4).trans rfl, (blk_cell BK322.out 5).trans rfl, (blk_cell BK277.out 0).trans rfl, (blk_cell BK277.out 1).trans rfl, (blk_cell BK277.out 2).trans rfl, (blk_cell BK277.out 3).trans rfl, (blk_cell BK277.out 4).trans rfl, (blk_cell BK277.out 5).trans rfl⟩ (fun hHeld => ?_)
      generalize w148.drew = w149 at HO285 HO288 HO296 HO299 HO306 HO309 HO318 HO321 HO329 HO332 BK276 BK277 BK311 BK322 HB hHeld ⊢
      refine take_ (i := 0) (N := some 40) (v := ?_) (a' := ?_) #[true, false, false, false, false] rfl rfl (by kernel_rfl) (fun _ _ _ h => h) (Or.inl ⟨by rfl, ?_⟩) hHeld ?_ ?_
      rotate_left
      ·rintro w' ⟨s0, s1, s2, s3, s4, s5, s6, s7, s8, s9, s10, s11⟩
       go_simp
       with_reducible rfl
      rotate_left
      ·simp only [Act.put, List.setIfInBounds_toArray, List.set_cons_zero, List.set_cons_succ, i64_w, i32_w]
       rfl
      refine take_ (i := 1) (N := some 41) (v := ?_) (a' := ?_) #[true, true, false, false, false] rfl rfl (by kernel_rfl) (fun _ _ _ h => h) (Or.inl ⟨by rfl, ?_⟩) hHeld ?_ ?_
      rotate_left
      ·rintro w' ⟨s0, s1, s2, s3, s4, s5, s6, s7, s8, s9, s10, s11⟩
       go_simp
       with_reducible rfl
      rotate_left
      ·simp only [Act.put, List.setIfInBounds_toArray, List.set_cons_zero, List.set_cons_succ, i64_w, i32_w]
       rfl
      refine one_ (i := 2) (N := some 42) #[true, true, true, false, false] rfl rfl (by kernel_rfl) (by decide) (fun K hK => ?_)
      refine goes_ Try.func10 (by kernel_rfl) rfl #[.agg #[.int .i64 a1_0, .int .i64 a1_1, .int .i64 a1_2, .int .i64 a1_3, .slice A1_4 l1_4.length c1_4, .slice A1_5 l1_5.length c1_5]] (by rfl) rfl rfl (by (try simp only [List.map_toArray, List.map_cons, List.map_nil]); first | done | rfl | (simp only [List.length_drop, List.length_take]; rfl)) ?_
      with_reducible refine (laws_toResp.calls k a1_0 a1_1 a1_2 a1_3 _ _ l1_4 _ _ l1_5 t335 t336 t337 t338 t339 t342 _ ?side1 ?side2 ?side3 ?side4 A63.out).mono ?_
      (case side1 => exact cB HR1_4.out HB.out)
      (case side2 => exact HC1_4.out)
      (case side3 => exact cB HR1_5.out HB.out)
      (case side4 => exact HC1_5.out)
      rintro e w150 ⟨v340, v343, rfl, ho0, ho1, hb⟩
      refine ⟨_, rfl, ?_⟩
      have n0_ := aM (Kd.R_elder' (rA HO285.out) (Kd.R_base ho0) hb)
      have n1_ := aM (Kd.R_elder' (rA HO288.out) (Kd.R_base ho1) hb)
      have n2_ := aM (Kd.R_elder' (rA HO296.out) (Kd.R_base ho0) hb)
      have n3_ := aM (Kd.R_elder' (rA HO299.out) (Kd.R_base ho1) hb)
      have n4_ := aM (Kd.R_elder' (rA HO306.out) (Kd.R_base ho0) hb)
      have n5_ := aM (Kd.R_elder' (rA HO309.out) (Kd.R_base ho1) hb)
      have n6_ := aM (Kd.R_elder' (rA HO318.out) (Kd.R_base ho0) hb)
      have n7_ := aM (Kd.R_elder' (rA HO321.out) (Kd.R_base ho1) hb)
      have n8_ := aM (Kd.R_elder' (rA HO329.out) (Kd.R_base ho0) hb)
      have n9_ := aM (Kd.R_elder' (rA HO332.out) (Kd.R_base ho1) hb)
      have n10_ := aM (Kd.R_lower (Kd.R_new' (Kd.R_new' (Kd.R_new' (Kd.R_new' (Kd.R_new' ho0 (Kd.R_lt (rA HO285.out))) (Kd.R_lt (rA HO296.out))) (Kd.R_lt (rA HO306.out))) (Kd.R_lt (rA HO318.out))) (Kd.R_lt (rA HO329.out))) (below_size (bS HB.out)))
      have n11_ := aM (Kd.R_lower (Kd.R_new' (Kd.R_new' (Kd.R_new' (Kd.R_new' (Kd.R_new' ho1 (Kd.R_lt (rA HO288.out))) (Kd.R_lt (rA HO299.out))) (Kd.R_lt (rA HO309.out))) (Kd.R_lt (rA HO321.out))) (Kd.R_lt (rA HO332.out))) (below_size (bS HB.out)))
      have n12_ := aM (kB BK276.out hb)
      have n13_ := aM (kB BK277.out hb)
      have n14_ := aM (kB BK311.out hb)
      have n15_ := aM (kB BK322.out hb)
      have n16_ := aM (below_step (bS HB.out) hb)
      clear HO285
      clear HO288
      clear HO296
      clear HO299
      clear HO306
      clear HO309
      clear HO318
      clear HO321
      clear HO329
      clear HO332
      clear BK276
      clear BK277
      clear BK311
      clear BK322
      clear HB
      have HO285 := n0_
      have HO288 := n1_
      have HO296 := n2_
      have HO299 := n3_
      have HO306 := n4_
      have HO309 := n5_
      have HO318 := n6_
      have HO321 := n7_
      have HO329 := n8_
      have HO332 := n9_
      have HO341 := n10_
      have HO344 := n11_
      have BK276 := n12_
      have BK277 := n13_
      have BK311 := n14_
      have BK322 := n15_
      have HB := n16_
      clear n0_ n1_ n2_ n3_ n4_ n5_ n6_ n7_ n8_ n9_ n10_ n11_ n12_ n13_ n14_ n15_ n16_
      (try clear hb)
      (try clear hb2)
      (try clear hk)
      (try clear hi)
      (try clear ho0)
      (try clear ho1)
      obtain ⟨Ao151, co151, eo151⟩ := Kd.R_slice HO341.out
      (first | subst eo151 | (injection eo151 with f1_ f2_ f3_; have f4_ := f1_.symm; have f5_ := f3_.symm; clear f1_ f2_ f3_; subst f4_; subst f5_))
      obtain ⟨Ao152, co152, eo152⟩ := Kd.R_slice HO344.out
      (first | subst eo152 | (injection eo152 with f1_ f2_ f3_; have f4_ := f1_.symm; have f5_ := f3_.symm; clear f1_ f2_ f3_; subst f4_; subst f5_))
      refine hK.out _ _ ⟨(blk_cell BK322.out 0).trans rfl, (blk_cell BK322.out 1).trans rfl, (blk_cell BK322.out 2).trans rfl, (blk_cell BK322.out 3).trans rfl, (blk_cell BK322.out 4).trans rfl, (blk_cell BK322.out 5).trans rfl, (blk_cell BK277.out 0).trans rfl, (blk_cell BK277.out 1).trans rfl, (blk_cell BK277.out 2).trans rfl, (blk_cell BK277.out 3).trans rfl, (blk_cell BK277.out 4).trans rfl, (blk_cell BK277.out 5).trans rfl⟩ (fun hHeld => ?_)
      clear hK K
      refine norm_ (a' := ?_) ?_ ?_
      rotate_left
      ·show Act.put _ (some 42) _ = _
       simp only [Act.put, List.setIfInBounds_toArray, List.set_cons_zero, List.set_cons_succ, i64_w, i32_w]
       rfl
      refine one_ (i := 3) (N := some 43) #[true, true, true, true, false] rfl rfl (by kernel_rfl) (by decide) (fun K hK => ?_)
      refine goes_ Try.func12 (by kernel_rfl) rfl #[.agg #[.int .i64 t312, .int .i64 t313, .int .i64 t314, .int .i64 t315, .slice Ao140 t316.length co140, .slice Ao141 t319.length co141], .agg #[.int .i64 t335, .int .i64 t336, .int .i64 t337, .int .i64 t338, .slice Ao151 t339.length co151, .slice Ao152 t342.length co152]] (by rfl) rfl rfl (by (try simp only [List.map_toArray, List.map_cons, List.map_nil]); first | done | rfl | (simp only [List.length_drop, List.length_take]; rfl)) ?_
      with_reducible refine (laws_eqResp.calls k t312 t313 t314 t315 _ _ t316 _ _ t319 t335 t336 t337 t338 _ _ t339 _ _ t342 false _ ?side1 ?side2 ?side3 ?side4 ?side5 ?side6 ?side7 ?side8 A64.out).mono ?_
      (case side1 => exact cR HO318.out)
      (case side2 => exact (Kd.R_reads' HO318.out).2.1)
      (case side3 => exact cR HO321.out)
      (case side4 => exact (Kd.R_reads' HO321.out).2.1)
      (case side5 => exact cR HO341.out)
      (case side6 => exact (Kd.R_reads' HO341.out).2.1)
      (case side7 => exact cR HO344.out)
      (case side8 => exact (Kd.R_reads' HO344.out).2.1)
      rintro e w153 ⟨rfl, hb⟩
      refine ⟨_, rfl, ?_⟩
      have n0_ := aM (rB HO285.out hb)
      have n1_ := aM (rB HO288.out hb)
      have n2_ := aM (rB HO296.out hb)
      have n3_ := aM (rB HO299.out hb)
      have n4_ := aM (rB HO306.out hb)
      have n5_ := aM (rB HO309.out hb)
      have n6_ := aM (rB HO318.out hb)
      have n7_ := aM (rB HO321.out hb)
      have n8_ := aM (rB HO329.out hb)
      have n9_ := aM (rB HO332.out hb)
      have n10_ := aM (rB HO341.out hb)
      have n11_ := aM (rB HO344.out hb)
      have n12_ := aM (kB BK276.out hb)
      have n13_ := aM (kB BK277.out hb)
      have n14_ := aM (kB BK311.out hb)
      have n15_ := aM (kB BK322.out hb)
      have n16_ := aM (below_step (bS HB.out) hb)
      clear HO285
      clear HO288
      clear HO296
      clear HO299
      clear HO306
      clear HO309
      clear HO318
      clear HO321
      clear HO329
      clear HO332
      clear HO341
      clear HO344
      clear BK276
      clear BK277
      clear BK311
      clear BK322
      clear HB
      have HO285 := n0_
      have HO288 := n1_
      have HO296 := n2_
      have HO299 := n3_
      have HO306 := n4_
      have HO309 := n5_
      have HO318 := n6_
      have HO321 := n7_
      have HO329 := n8_
      have HO332 := n9_
      have HO341 := n10_
      have HO344 := n11_
      have BK276 := n12_
      have BK277 := n13_
      have BK311 := n14_
      have BK322 := n15_
      have HB := n16_
      clear n0_ n1_ n2_ n3_ n4_ n5_ n6_ n7_ n8_ n9_ n10_ n11_ n12_ n13_ n14_ n15_ n16_
      (try clear hb)
      (try clear hb2)
      (try clear hk)
      (try clear hi)
      refine hK.out _ _ ⟨(blk_cell BK322.out 0).trans rfl, (blk_cell BK322.out 1).trans rfl, (blk_cell BK322.out 2).trans rfl, (blk_cell BK322.out 3).trans rfl, (blk_cell BK322.out 4).trans rfl, (blk_cell BK322.out 5).trans rfl, (blk_cell BK277.out 0).trans rfl, (blk_cell BK277.out 1).trans rfl, (blk_cell BK277.out 2).trans rfl, (blk_cell BK277.out 3).trans rfl, (blk_cell BK277.out 4).trans rfl, (blk_cell BK277.out 5).trans rfl⟩ (fun hHeld => ?_)
      clear hK K
      refine norm_ (a' := ?_) ?_ ?_
      rotate_left
      ·show Act.put _ (some 43) _ = _
       simp only [Act.put, List.setIfInBounds_toArray, List.set_cons_zero, List.set_cons_succ, i64_w, i32_w]
       rfl
      refine pure_ (i := 4) (N := some 44) (v := ?_) (a' := ?_) #[true, true, true, true, true] rfl rfl (by kernel_rfl) (fun _ _ _ h => h) (Or.inl ⟨by rfl, ?_⟩) ?_ ?_
      rotate_left
      ·intro w'
       go_simp
       with_reducible rfl
      rotate_left
      ·simp only [Act.put, List.setIfInBounds_toArray, List.set_cons_zero, List.set_cons_succ, i64_w, i32_w]
       rfl
      refine done_ (by kernel_rfl) ?_
      try go_wp2
      go_ret
      exact ⟨by first | rfl | (simp [errW_none, errW_some] <;> rfl) | (simp [*, errW_none, errW_some] <;> rfl), bS HB.out⟩
    ·replace c62 := Bool.eq_false_iff.mpr c62
     subst c62
     have H1 : (some false) = some r := by rw [if_neg (show ¬ (false = true) by decide)] at H; exact H
     clear H
     have H := H1
     clear H1
     obtain rfl := Option.some.inj H
     go_enter Try.func6, Try.ntmps6
     try go_wp2_with (first | ((with_reducible refine gate_dst (N := 2) rfl ?_); refine box_event ?hg (N := 2) ?hd (cs := #[.int .i64 a0_0, .int .i64 a0_1, .int .i64 a0_2, .slice A0_3 l0_3.length c0_3, .slice A0_4 l0_4.length c0_4, .int .i64 a0_5]) (t := 33) ?hr ?_; (case hd => rfl); (case hg => rfl); (case hr => first | (go_simp; done) | (go_simp; rfl)); intro gb276 hg w154 hbox hb; have _ := aM (below_step (bS HB.out) hb); have _ := aM (hbox); have _ := aM (leG hg (bS HB.out)); have _ := aM (leG hg (bS HB.out)); clear HB; rename_i HB BK276 GW276 GE276; clear hb hbox hg) | ((with_reducible refine gate_dst (N := 3) rfl ?_); refine box_event ?hg (N := 3) ?hd (cs := #[.int .i64 a1_0, .int .i64 a1_1, .int .i64 a1_2, .int .i64 a1_3, .slice A1_4 l1_4.length c1_4, .slice A1_5 l1_5.length c1_5]) (t := 25) ?hr ?_; (case hd => rfl); (case hg => rfl); (case hr => first | (go_simp; done) | (go_simp; rfl)); intro gb277 hg w155 hbox hb; have _ := aM (kB BK276.out hb); have _ := aM (below_step (bS HB.out) hb); have _ := aM (hbox); have _ := aM (leG hg (bS HB.out)); have _ := aM (leG hg (bS HB.out)); have _ := aM (neL hg (kA BK276.out)); have _ := aM (neG hg (kA BK276.out)); clear BK276 HB; rename_i BK276 HB BK277 GW277 GE277 NB276_277 NB277_276; clear hb hbox hg; have hnb156 := NB276_277.out; have hnc156 := NB277_276.out; obtain ⟨hcz157_0, hfz157_0, hcz157_1, hfz157_1, hcz157_2, hfz157_2, hcz157_3, hfz157_3, hcz157_4, hfz157_4, hcz157_5, hfz157_5⟩ := bk6 BK276.out) | ((with_reducible refine gate_callee (f := 13) rfl ?_); refine gL (some 12) rfl rfl Try.func13 (by kernel_rfl) rfl #[.agg #[.int .i64 a0_0, .int .i64 a0_1, .int .i64 a0_2, .slice A0_3 l0_3.length c0_3, .slice A0_4 l0_4.length c0_4, .int .i64 a0_5], .int .i64 1048576] rfl ?_; (with_reducible refine (laws_szReq.calls a0_0 a0_1 a0_2 _ _ l0_3 _ _ l0_4 a0_5 1048576 t278 _ ?side1 ?side2 ?side3 ?side4 A3.out).mono ?_); (case side1 => exact cB HR0_3.out HB.out); (case side2 => exact HC0_3.out); (case side3 => exact cB HR0_4.out HB.out); (case side4 => exact HC0_4.out); rintro e w158 ⟨rfl, hb⟩; refine ⟨_, rfl, ?_⟩; have _ := aM (kB BK276.out hb); have _ := aM (kB BK277.out hb); have _ := aM (below_step (bS HB.out) hb); clear BK276 BK277 HB; rename_i BK276 BK277 HB; (try clear hb); obtain ⟨hcz159_0, hfz159_0, hcz159_1, hfz159_1, hcz159_2, hfz159_2, hcz159_3, hfz159_3, hcz159_4, hfz159_4, hcz159_5, hfz159_5⟩ := bk6 BK277.out) | ((with_reducible refine gate_callee (f := 8) rfl ?_); refine gL (some 17) rfl rfl Try.func8 (by kernel_rfl) rfl #[.agg #[.int .i64 a1_0, .int .i64 a1_1, .int .i64 a1_2, .int .i64 a1_3, .slice A1_4 l1_4.length c1_4, .slice A1_5 l1_5.length c1_5], .int .i64 t278] rfl ?_; (with_reducible refine (laws_szResp.calls a1_0 a1_1 a1_2 a1_3 _ _ l1_4 _ _ l1_5 t278 t279 _ ?side1 ?side2 ?side3 ?side4 A10.out).mono ?_); (case side1 => exact cB HR1_4.out HB.out); (case side2 => exact HC1_4.out); (case side3 => exact cB HR1_5.out HB.out); (case side4 => exact HC1_5.out); rintro e w160 ⟨rfl, hb⟩; refine ⟨_, rfl, ?_⟩; have _ := aM (kB BK276.out hb); have _ := aM (kB BK277.out hb); have _ := aM (below_step (bS HB.out) hb); clear BK276 BK277 HB; rename_i BK276 BK277 HB; (try clear hb)))
     have n0_ := aM (blk_drew BK276.out)
     have n1_ := aM (blk_drew BK277.out)
     have n2_ := aM (below_drew1 HB.out)
     clear BK276
     clear BK277
     clear HB
     have BK276 := n0_
     have BK277 := n1_
     have HB := n2_
     clear n0_ n1_ n2_
     refine start_ (n := 6) (S := fun w' => w'.cell? ⟨gb276, 0, none⟩ = some (.int .i64 a0_0) ∧ w'.cell? ⟨gb276, 1, none⟩ = some (.int .i64 a0_1) ∧ w'.cell? ⟨gb276, 2, none⟩ = some (.int .i64 a0_2) ∧ w'.cell? ⟨gb276, 3, none⟩ = some (.slice A0_3 l0_3.length c0_3) ∧ w'.cell? ⟨gb276, 4, none⟩ = some (.slice A0_4 l0_4.length c0_4) ∧ w'.cell? ⟨gb276, 5, none⟩ = some (.int .i64 a0_5) ∧ w'.cell? ⟨gb277, 0, none⟩ = some (.int .i64 a1_0) ∧ w'.cell? ⟨gb277, 1, none⟩ = some (.int .i64 a1_1) ∧ w'.cell? ⟨gb277, 2, none⟩ = some (.int .i64 a1_2) ∧ w'.cell? ⟨gb277, 3, none⟩ = some (.int .i64 a1_3) ∧ w'.cell? ⟨gb277, 4, none⟩ = some (.slice A1_4 l1_4.length c1_4) ∧ w'.cell? ⟨gb277, 5, none⟩ = some (.slice A1_5 l1_5.length c1_5)) (ds := []) #[false, false, false, false, false, false] (by kernel_rfl) rfl rfl ⟨(blk_cell BK276.out 0).trans rfl, (blk_cell BK276.out 1).trans rfl, (blk_cell BK276.out 2).trans rfl, (blk_cell BK276.out 3).trans rfl, (blk_cell BK276.out 4).trans rfl, (blk_cell BK276.out 5).trans rfl, (blk_cell BK277.out 0).trans rfl, (blk_cell BK277.out 1).trans rfl, (blk_cell BK277.out 2).trans rfl, (blk_cell BK277.out 3).trans rfl, (blk_cell BK277.out 4).trans rfl, (blk_cell BK277.out 5).trans rfl⟩ (fun hHeld => ?_)
     generalize w160.drew = w161 at BK276 BK277 HB hHeld ⊢
     refine take_ (i := 0) (N := some 20) (v := ?_) (a' := ?_) #[true, false, false, false, false, false] rfl rfl (by kernel_rfl) (fun _ _ _ h => h) (Or.inl ⟨by rfl, ?_⟩) hHeld ?_ ?_
     rotate_left
     ·rintro w' ⟨s0, s1, s2, s3, s4, s5, s6, s7, s8, s9, s10, s11⟩
      go_simp
      with_reducible rfl
     rotate_left
     ·simp only [Act.put, List.setIfInBounds_toArray, List.set_cons_zero, List.set_cons_succ, i64_w, i32_w]
      rfl
     refine take_ (i := 2) (N := some 22) (v := ?_) (a' := ?_) #[true, false, true, false, false, false] rfl rfl (by kernel_rfl) (fun _ _ _ h => h) (Or.inl ⟨by rfl, ?_⟩) hHeld ?_ ?_
     rotate_left
     ·rintro w' ⟨s0, s1, s2, s3, s4, s5, s6, s7, s8, s9, s10, s11⟩
      go_simp
      with_reducible rfl
     rotate_left
     ·simp only [Act.put, List.setIfInBounds_toArray, List.set_cons_zero, List.set_cons_succ, i64_w, i32_w]
      rfl
     refine one_ (i := 1) (N := some 21) #[true, true, true, false, false, false] rfl rfl (by kernel_rfl) (by decide) (fun K hK => ?_)
     refine goes_ Try.func15 (by kernel_rfl) rfl #[.agg #[.int .i64 a0_0, .int .i64 a0_1, .int .i64 a0_2, .slice A0_3 l0_3.length c0_3, .slice A0_4 l0_4.length c0_4, .int .i64 a0_5]] (by rfl) rfl rfl (by (try simp only [List.map_toArray, List.map_cons, List.map_nil]); first | done | rfl | (simp only [List.length_drop, List.length_take]; rfl)) ?_
     with_reducible refine (laws_toReq.calls k a0_0 a0_1 a0_2 _ _ l0_3 _ _ l0_4 a0_5 t280 t281 t282 t283 t286 t289 _ ?side1 ?side2 ?side3 ?side4 A19.out).mono ?_
     (case side1 => exact cB HR0_3.out HB.out)
     (case side2 => exact HC0_3.out)
     (case side3 => exact cB HR0_4.out HB.out)
     (case side4 => exact HC0_4.out)
     rintro e w162 ⟨v284, v287, rfl, ho0, ho1, hb⟩
     refine ⟨_, rfl, ?_⟩
     have n0_ := aM (Kd.R_lower ho0 (below_size (bS HB.out)))
     have n1_ := aM (Kd.R_lower ho1 (below_size (bS HB.out)))
     have n2_ := aM (kB BK276.out hb)
     have n3_ := aM (kB BK277.out hb)
     have n4_ := aM (below_step (bS HB.out) hb)
     clear BK276
     clear BK277
     clear HB
     have HO285 := n0_
     have HO288 := n1_
     have BK276 := n2_
     have BK277 := n3_
     have HB := n4_
     clear n0_ n1_ n2_ n3_ n4_
     (try clear hb)
     (try clear hb2)
     (try clear hk)
     (try clear hi)
     (try clear ho0)
     (try clear ho1)
     refine hK.out _ _ ⟨(blk_cell BK276.out 0).trans rfl, (blk_cell BK276.out 1).trans rfl, (blk_cell BK276.out 2).trans rfl, (blk_cell BK276.out 3).trans rfl, (blk_cell BK276.out 4).trans rfl, (blk_cell BK276.out 5).trans rfl, (blk_cell BK277.out 0).trans rfl, (blk_cell BK277.out 1).trans rfl, (blk_cell BK277.out 2).trans rfl, (blk_cell BK277.out 3).trans rfl, (blk_cell BK277.out 4).trans rfl, (blk_cell BK277.out 5).trans rfl⟩ (fun hHeld => ?_)
     clear hK K
     refine norm_ (a' := ?_) ?_ ?_
     rotate_left
     ·show Act.put _ (some 21) _ = _
      simp only [Act.put, List.setIfInBounds_toArray, List.set_cons_zero, List.set_cons_succ, i64_w, i32_w]
      rfl
     refine one_ (i := 3) (N := some 23) #[true, true, true, true, false, false] rfl rfl (by kernel_rfl) (by decide) (fun K hK => ?_)
     refine goes_ Try.func10 (by kernel_rfl) rfl #[.agg #[.int .i64 a1_0, .int .i64 a1_1, .int .i64 a1_2, .int .i64 a1_3, .slice A1_4 l1_4.length c1_4, .slice A1_5 l1_5.length c1_5]] (by rfl) rfl rfl (by (try simp only [List.map_toArray, List.map_cons, List.map_nil]); first | done | rfl | (simp only [List.length_drop, List.length_take]; rfl)) ?_
     with_reducible refine (laws_toResp.calls k a1_0 a1_1 a1_2 a1_3 _ _ l1_4 _ _ l1_5 t290 t291 t292 t293 t294 t297 _ ?side1 ?side2 ?side3 ?side4 A20.out).mono ?_
     (case side1 => exact cB HR1_4.out HB.out)
     (case side2 => exact HC1_4.out)
     (case side3 => exact cB HR1_5.out HB.out)
     (case side4 => exact HC1_5.out)
     rintro e w163 ⟨v295, v298, rfl, ho0, ho1, hb⟩
     refine ⟨_, rfl, ?_⟩
     have n0_ := aM (Kd.R_elder' (rA HO285.out) (Kd.R_base ho0) hb)
     have n1_ := aM (Kd.R_elder' (rA HO288.out) (Kd.R_base ho1) hb)
     have n2_ := aM (Kd.R_lower (Kd.R_new' ho0 (Kd.R_lt (rA HO285.out))) (below_size (bS HB.out)))
     have n3_ := aM (Kd.R_lower (Kd.R_new' ho1 (Kd.R_lt (rA HO288.out))) (below_size (bS HB.out)))
     have n4_ := aM (kB BK276.out hb)
     have n5_ := aM (kB BK277.out hb)
     have n6_ := aM (below_step (bS HB.out) hb)
     clear HO285
     clear HO288
     clear BK276
     clear BK277
     clear HB
     have HO285 := n0_
     have HO288 := n1_
     have HO296 := n2_
     have HO299 := n3_
     have BK276 := n4_
     have BK277 := n5_
     have HB := n6_
     clear n0_ n1_ n2_ n3_ n4_ n5_ n6_
     (try clear hb)
     (try clear hb2)
     (try clear hk)
     (try clear hi)
     (try clear ho0)
     (try clear ho1)
     obtain ⟨Ao164, co164, eo164⟩ := Kd.R_slice HO285.out
     (first | subst eo164 | (injection eo164 with f1_ f2_ f3_; have f4_ := f1_.symm; have f5_ := f3_.symm; clear f1_ f2_ f3_; subst f4_; subst f5_))
     obtain ⟨Ao165, co165, eo165⟩ := Kd.R_slice HO288.out
     (first | subst eo165 | (injection eo165 with f1_ f2_ f3_; have f4_ := f1_.symm; have f5_ := f3_.symm; clear f1_ f2_ f3_; subst f4_; subst f5_))
     obtain ⟨Ao166, co166, eo166⟩ := Kd.R_slice HO296.out
     (first | subst eo166 | (injection eo166 with f1_ f2_ f3_; have f4_ := f1_.symm; have f5_ := f3_.symm; clear f1_ f2_ f3_; subst f4_; subst f5_))
     obtain ⟨Ao167, co167, eo167⟩ := Kd.R_slice HO299.out
     (first | subst eo167 | (injection eo167 with f1_ f2_ f3_; have f4_ := f1_.symm; have f5_ := f3_.symm; clear f1_ f2_ f3_; subst f4_; subst f5_))
     refine hK.out _ _ ⟨(blk_cell BK276.out 0).trans rfl, (blk_cell BK276.out 1).trans rfl, (blk_cell BK276.out 2).trans rfl, (blk_cell BK276.out 3).trans rfl, (blk_cell BK276.out 4).trans rfl, (blk_cell BK276.out 5).trans rfl, (blk_cell BK277.out 0).trans rfl, (blk_cell BK277.out 1).trans rfl, (blk_cell BK277.out 2).trans rfl, (blk_cell BK277.out 3).trans rfl, (blk_cell BK277.out 4).trans rfl, (blk_cell BK277.out 5).trans rfl⟩ (fun hHeld => ?_)
     clear hK K
     refine norm_ (a' := ?_) ?_ ?_
     rotate_left
     ·show Act.put _ (some 23) _ = _
      simp only [Act.put, List.setIfInBounds_toArray, List.set_cons_zero, List.set_cons_succ, i64_w, i32_w]
      rfl
     refine one_ (i := 4) (N := some 24) #[true, true, true, true, true, false] rfl rfl (by kernel_rfl) (by decide) (fun K hK => ?_)
     refine goes_ Try.func23 (by kernel_rfl) rfl #[.agg #[.int .i64 t280, .int .i64 t281, .int .i64 t282, .slice Ao164 t283.length co164, .slice Ao165 t286.length co165, .int .i64 t289], .agg #[.int .i64 t290, .int .i64 t291, .int .i64 t292, .int .i64 t293, .slice Ao166 t294.length co166, .slice Ao167 t297.length co167]] (by rfl) rfl rfl (by (try simp only [List.map_toArray, List.map_cons, List.map_nil]); first | done | rfl | (simp only [List.length_drop, List.length_take]; rfl)) ?_
     with_reducible refine (spec_Suits.calls k t280 t281 t282 _ _ t283 _ _ t286 t289 t290 t291 t292 t293 _ _ t294 _ _ t297 t300 _ ?side1 ?side2 ?side3 ?side4 ?side5 ?side6 ?side7 ?side8 A21.out).mono ?_
     (case side1 => exact cR HO285.out)
     (case side2 => exact (Kd.R_reads' HO285.out).2.1)
     (case side3 => exact cR HO288.out)
     (case side4 => exact (Kd.R_reads' HO288.out).2.1)
     (case side5 => exact cR HO296.out)
     (case side6 => exact (Kd.R_reads' HO296.out).2.1)
     (case side7 => exact cR HO299.out)
     (case side8 => exact (Kd.R_reads' HO299.out).2.1)
     rintro e w168 ⟨rfl, hb⟩
     refine ⟨_, rfl, ?_⟩
     have n0_ := aM (rB HO285.out hb)
     have n1_ := aM (rB HO288.out hb)
     have n2_ := aM (rB HO296.out hb)
     have n3_ := aM (rB HO299.out hb)
     have n4_ := aM (kB BK276.out hb)
     have n5_ := aM (kB BK277.out hb)
     have n6_ := aM (below_step (bS HB.out) hb)
     clear HO285
     clear HO288
     clear HO296
     clear HO299
     clear BK276
     clear BK277
     clear HB
     have HO285 := n0_
     have HO288 := n1_
     have HO296 := n2_
     have HO299 := n3_
     have BK276 := n4_
     have BK277 := n5_
     have HB := n6_
     clear n0_ n1_ n2_ n3_ n4_ n5_ n6_
     (try clear hb)
     (try clear hb2)
     (try clear hk)
     (try clear hi)
     refine hK.out _ _ ⟨(blk_cell BK276.out 0).trans rfl, (blk_cell BK276.out 1).trans rfl, (blk_cell BK276.out 2).trans rfl, (blk_cell BK276.out 3).trans rfl, (blk_cell BK276.out 4).trans rfl, (blk_cell BK276.out 5).trans rfl, (blk_cell BK277.out 0).trans rfl, (blk_cell BK277.out 1).trans rfl, (blk_cell BK277.out 2).trans rfl, (blk_cell BK277.out 3).trans rfl, (blk_cell BK277.out 4).trans rfl, (blk_cell BK277.out 5).trans rfl⟩ (fun hHeld => ?_)
     clear hK K
     refine norm_ (a' := ?_) ?_ ?_
     rotate_left
     ·show Act.put _ (some 24) _ = _
      simp only [Act.put, List.setIfInBounds_toArray, List.set_cons_zero, List.set_cons_succ, i64_w, i32_w]
      rfl
     refine pure_ (i := 5) (N := some 6) (v := ?_) (a' := ?_) #[true, true, true, true, true, true] rfl rfl (by kernel_rfl) (fun _ _ _ h => h) (Or.inl ⟨by rfl, ?_⟩) ?_ ?_
     rotate_left
     ·intro w'
      go_simp
      with_reducible rfl
     rotate_left
     ·simp only [Act.put, List.setIfInBounds_toArray, List.set_cons_zero, List.set_cons_succ, i64_w, i32_w]
      rfl
     refine done_ (by kernel_rfl) ?_
     obtain ⟨hcz169_0, hfz169_0, hcz169_1, hfz169_1, hcz169_2, hfz169_2, hcz169_3, hfz169_3, hcz169_4, hfz169_4, hcz169_5, hfz169_5⟩ := bk6 BK276.out
     try go_wp2_with (first | ((with_reducible refine gate_callee (f := 15) rfl ?_); refine gL (some 26) rfl rfl Try.func15 (by kernel_rfl) rfl #[.agg #[.int .i64 a0_0, .int .i64 a0_1, .int .i64 a0_2, .slice A0_3 l0_3.length c0_3, .slice A0_4 l0_4.length c0_4, .int .i64 a0_5]] rfl ?_; (with_reducible refine (laws_toReq.calls k a0_0 a0_1 a0_2 _ _ l0_3 _ _ l0_4 a0_5 t301 t302 t303 t304 t307 t310 _ ?side1 ?side2 ?side3 ?side4 A22.out).mono ?_); (case side1 => exact cB HR0_3.out HB.out); (case side2 => exact HC0_3.out); (case side3 => exact cB HR0_4.out HB.out); (case side4 => exact HC0_4.out); rintro e w170 ⟨v305, v308, rfl, ho0, ho1, hb⟩; refine ⟨_, rfl, ?_⟩; have _ := aM (Kd.R_elder' (rA HO285.out) (Kd.R_base ho0) hb); have _ := aM (Kd.R_elder' (rA HO288.out) (Kd.R_base ho1) hb); have _ := aM (Kd.R_elder' (rA HO296.out) (Kd.R_base ho0) hb); have _ := aM (Kd.R_elder' (rA HO299.out) (Kd.R_base ho1) hb); have _ := aM (Kd.R_lower (Kd.R_new' (Kd.R_new' ho0 (Kd.R_lt (rA HO285.out))) (Kd.R_lt (rA HO296.out))) (below_size (bS HB.out))); have _ := aM (Kd.R_lower (Kd.R_new' (Kd.R_new' ho1 (Kd.R_lt (rA HO288.out))) (Kd.R_lt (rA HO299.out))) (below_size (bS HB.out))); have _ := aM (kB BK276.out hb); have _ := aM (kB BK277.out hb); have _ := aM (below_step (bS HB.out) hb); clear HO285 HO288 HO296 HO299 BK276 BK277 HB; rename_i HO285 HO288 HO296 HO299 HO306 HO309 BK276 BK277 HB; (try clear hb); (try clear ho0); (try clear ho1)) | ((with_reducible refine gate_dst (N := 7) rfl ?_); refine box_event ?hg (N := 7) ?hd (cs := #[.int .i64 0, .int .i64 0, .int .i64 0, .slice none 0 0, .slice none 0 0, .int .i64 0]) (t := 36) ?hr ?_; (case hd => rfl); (case hg => rfl); (case hr => first | (go_simp; done) | (go_simp; rfl)); intro gb311 hg w171 hbox hb; have _ := aM (rB HO285.out hb); have _ := aM (rB HO288.out hb); have _ := aM (rB HO296.out hb); have _ := aM (rB HO299.out hb); have _ := aM (rB HO306.out hb); have _ := aM (rB HO309.out hb); have _ := aM (kB BK276.out hb); have _ := aM (kB BK277.out hb); have _ := aM (below_step (bS HB.out) hb); have _ := aM (hbox); have _ := aM (leG hg (bS HB.out)); have _ := aM (leG hg (bS HB.out)); have _ := aM (neL hg (kA BK276.out)); have _ := aM (neG hg (kA BK276.out)); have _ := aM (neL hg (kA BK277.out)); have _ := aM (neG hg (kA BK277.out)); clear HO285 HO288 HO296 HO299 HO306 HO309 BK276 BK277 HB; rename_i HO285 HO288 HO296 HO299 HO306 HO309 BK276 BK277 HB BK311 GW311 GE311 NB276_311 NB311_276 NB277_311 NB311_277; clear hb hbox hg; have hnb172 := NB311_276.out; have hnc172 := NB276_311.out; have hnb173 := NB311_277.out; have hnc173 := NB277_311.out; obtain ⟨hcz174_0, hfz174_0, hcz174_1, hfz174_1, hcz174_2, hfz174_2, hcz174_3, hfz174_3, hcz174_4, hfz174_4, hcz174_5, hfz174_5⟩ := bk6 BK311.out; obtain ⟨Ao175, co175, eo175⟩ := Kd.R_slice HO306.out; subst eo175; obtain ⟨Ao176, co176, eo176⟩ := Kd.R_slice HO309.out; subst eo176; obtain ⟨hcz177_0, hfz177_0, hcz177_1, hfz177_1, hcz177_2, hfz177_2, hcz177_3, hfz177_3, hcz177_4, hfz177_4, hcz177_5, hfz177_5⟩ := bk6 BK277.out) | ((with_reducible refine gate_callee (f := 10) rfl ?_); refine gL (some 28) rfl rfl Try.func10 (by kernel_rfl) rfl #[.agg #[.int .i64 a1_0, .int .i64 a1_1, .int .i64 a1_2, .int .i64 a1_3, .slice A1_4 l1_4.length c1_4, .slice A1_5 l1_5.length c1_5]] rfl ?_; (with_reducible refine (laws_toResp.calls k a1_0 a1_1 a1_2 a1_3 _ _ l1_4 _ _ l1_5 t312 t313 t314 t315 t316 t319 _ ?side1 ?side2 ?side3 ?side4 A23.out).mono ?_); (case side1 => exact Kd.C_below HR1_4.out (bS HB.out)); (case side2 => exact HC1_4.out); (case side3 => exact Kd.C_below HR1_5.out (bS HB.out)); (case side4 => exact HC1_5.out); rintro e w178 ⟨v317, v320, rfl, ho0, ho1, hb⟩; refine ⟨_, rfl, ?_⟩; have _ := aM (Kd.R_elder' (rF6 HO285.out BK311.out) (Kd.R_base ho0) hb); have _ := aM (Kd.R_elder' (rF6 HO288.out BK311.out) (Kd.R_base ho1) hb); have _ := aM (Kd.R_elder' (rF6 HO296.out BK311.out) (Kd.R_base ho0) hb); have _ := aM (Kd.R_elder' (rF6 HO299.out BK311.out) (Kd.R_base ho1) hb); have _ := aM (Kd.R_elder' (rF6 HO306.out BK311.out) (Kd.R_base ho0) hb); have _ := aM (Kd.R_elder' (rF6 HO309.out BK311.out) (Kd.R_base ho1) hb); have _ := aM (Kd.R_lower (Kd.R_new' (Kd.R_new' (Kd.R_new' ho0 (Kd.R_lt (rF6 HO285.out BK311.out))) (Kd.R_lt (rF6 HO296.out BK311.out))) (Kd.R_lt (rF6 HO306.out BK311.out))) (below_size (bS HB.out))); have _ := aM (Kd.R_lower (Kd.R_new' (Kd.R_new' (Kd.R_new' ho1 (Kd.R_lt (rF6 HO288.out BK311.out))) (Kd.R_lt (rF6 HO299.out BK311.out))) (Kd.R_lt (rF6 HO309.out BK311.out))) (below_size (bS HB.out))); have _ := aM (blk_below (kF6 BK276.out NB276_311.out) hb); have _ := aM (blk_below (kF6 BK277.out NB277_311.out) hb); have _ := aM (blk_below (kP6 BK311.out) hb); have _ := aM (below_step (bS HB.out) hb); clear HO285 HO288 HO296 HO299 HO306 HO309 BK276 BK277 BK311 HB; rename_i HO285 HO288 HO296 HO299 HO306 HO309 HO318 HO321 BK276 BK277 BK311 HB; (try clear hb); (try clear ho0); (try clear ho1)) | ((with_reducible refine gate_dst (N := 8) rfl ?_); refine box_event ?hg (N := 8) ?hd (cs := #[.int .i64 0, .int .i64 0, .int .i64 0, .int .i64 0, .slice none 0 0, .slice none 0 0]) (t := 28) ?hr ?_; (case hd => rfl); (case hg => rfl); (case hr => first | (go_simp; done) | (go_simp; rfl)); intro gb322 hg w179 hbox hb; have _ := aM (rB HO285.out hb); have _ := aM (rB HO288.out hb); have _ := aM (rB HO296.out hb); have _ := aM (rB HO299.out hb); have _ := aM (rB HO306.out hb); have _ := aM (rB HO309.out hb); have _ := aM (rB HO318.out hb); have _ := aM (rB HO321.out hb); have _ := aM (kB BK276.out hb); have _ := aM (kB BK277.out hb); have _ := aM (kB BK311.out hb); have _ := aM (below_step (bS HB.out) hb); have _ := aM (hbox); have _ := aM (leG hg (bS HB.out)); have _ := aM (leG hg (bS HB.out)); have _ := aM (neL hg (kA BK276.out)); have _ := aM (neG hg (kA BK276.out)); have _ := aM (neL hg (kA BK277.out)); have _ := aM (neG hg (kA BK277.out)); have _ := aM (neL hg (kA BK311.out)); have _ := aM (neG hg (kA BK311.out)); clear HO285 HO288 HO296 HO299 HO306 HO309 HO318 HO321 BK276 BK277 BK311 HB; rename_i HO285 HO288 HO296 HO299 HO306 HO309 HO318 HO321 BK276 BK277 BK311 HB BK322 GW322 GE322 NB276_322 NB322_276 NB277_322 NB322_277 NB311_322 NB322_311; clear hb hbox hg; have hnb180 := NB322_276.out; have hnc180 := NB276_322.out; have hnb181 := NB322_277.out; have hnc181 := NB277_322.out; have hnb182 := NB322_311.out; have hnc182 := NB311_322.out; obtain ⟨hcz183_0, hfz183_0, hcz183_1, hfz183_1, hcz183_2, hfz183_2, hcz183_3, hfz183_3, hcz183_4, hfz183_4, hcz183_5, hfz183_5⟩ := bk6 BK322.out; obtain ⟨Ao184, co184, eo184⟩ := Kd.R_slice HO318.out; subst eo184; obtain ⟨Ao185, co185, eo185⟩ := Kd.R_slice HO321.out; subst eo185; obtain ⟨hcz186_0, hfz186_0, hcz186_1, hfz186_1, hcz186_2, hfz186_2, hcz186_3, hfz186_3, hcz186_4, hfz186_4, hcz186_5, hfz186_5⟩ := bk6 BK311.out) | ((with_reducible refine gate_callee (f := 24) rfl ?_); refine gL (some 31) rfl rfl Try.func24 (by kernel_rfl) rfl #[.agg #[.int .i64 t301, .int .i64 t302, .int .i64 t303, .slice Ao175 t304.length co175, .slice Ao176 t307.length co176, .int .i64 t310], .agg #[.int .i64 t312, .int .i64 t313, .int .i64 t314, .int .i64 t315, .slice Ao184 t316.length co184, .slice Ao185 t319.length co185]] rfl ?_; (with_reducible refine (impl_Suits.calls k t301 t302 t303 _ _ t304 _ _ t307 t310 t312 t313 t314 t315 _ _ t316 _ _ t319 t323 _ ?side1 ?side2 ?side3 ?side4 ?side5 ?side6 ?side7 ?side8 A24.out).mono ?_); (case side1 => exact (Kd.R_reads' (rF6 HO306.out BK322.out)).2.2); (case side2 => exact (Kd.R_reads' HO306.out).2.1); (case side3 => exact (Kd.R_reads' (rF6 HO309.out BK322.out)).2.2); (case side4 => exact (Kd.R_reads' HO309.out).2.1); (case side5 => exact (Kd.R_reads' (rF6 HO318.out BK322.out)).2.2); (case side6 => exact (Kd.R_reads' HO318.out).2.1); (case side7 => exact (Kd.R_reads' (rF6 HO321.out BK322.out)).2.2); (case side8 => exact (Kd.R_reads' HO321.out).2.1); rintro e w187 ⟨rfl, hb⟩; refine ⟨_, rfl, ?_⟩; have _ := aM (Kd.R_below (rF6 HO285.out BK322.out) hb); have _ := aM (Kd.R_below (rF6 HO288.out BK322.out) hb); have _ := aM (Kd.R_below (rF6 HO296.out BK322.out) hb); have _ := aM (Kd.R_below (rF6 HO299.out BK322.out) hb); have _ := aM (Kd.R_below (rF6 HO306.out BK322.out) hb); have _ := aM (Kd.R_below (rF6 HO309.out BK322.out) hb); have _ := aM (Kd.R_below (rF6 HO318.out BK322.out) hb); have _ := aM (Kd.R_below (rF6 HO321.out BK322.out) hb); have _ := aM (blk_below (kF6 BK276.out NB276_322.out) hb); have _ := aM (blk_below (kF6 BK277.out NB277_322.out) hb); have _ := aM (blk_below (kF6 BK311.out NB311_322.out) hb); have _ := aM (blk_below (kP6 BK322.out) hb); have _ := aM (below_step (bS HB.out) hb); clear HO285 HO288 HO296 HO299 HO306 HO309 HO318 HO321 BK276 BK277 BK311 BK322 HB; rename_i HO285 HO288 HO296 HO299 HO306 HO309 HO318 HO321 BK276 BK277 BK311 BK322 HB; (try clear hb)))
     have n0_ := aM (Kd.R_drew HO285.out)
     have n1_ := aM (Kd.R_drew HO288.out)
     have n2_ := aM (Kd.R_drew HO296.out)
     have n3_ := aM (Kd.R_drew HO299.out)
     have n4_ := aM (Kd.R_drew HO306.out)
     have n5_ := aM (Kd.R_drew HO309.out)
     have n6_ := aM (Kd.R_drew HO318.out)
     have n7_ := aM (Kd.R_drew HO321.out)
     have n8_ := aM (blk_drew BK276.out)
     have n9_ := aM (blk_drew BK277.out)
     have n10_ := aM (blk_drew BK311.out)
     have n11_ := aM (blk_drew BK322.out)
     have n12_ := aM (below_drew1 HB.out)
     clear HO285
     clear HO288
     clear HO296
     clear HO299
     clear HO306
     clear HO309
     clear HO318
     clear HO321
     clear BK276
     clear BK277
     clear BK311
     clear BK322
     clear HB
     have HO285 := n0_
     have HO288 := n1_
     have HO296 := n2_
     have HO299 := n3_
     have HO306 := n4_
     have HO309 := n5_
     have HO318 := n6_
     have HO321 := n7_
     have BK276 := n8_
     have BK277 := n9_
     have BK311 := n10_
     have BK322 := n11_
     have HB := n12_
     clear n0_ n1_ n2_ n3_ n4_ n5_ n6_ n7_ n8_ n9_ n10_ n11_ n12_
     refine start_ (n := 5) (S := fun w' => w'.cell? ⟨gb311, 0, none⟩ = some (.int .i64 t301) ∧ w'.cell? ⟨gb311, 1, none⟩ = some (.int .i64 t302) ∧ w'.cell? ⟨gb311, 2, none⟩ = some (.int .i64 t303) ∧ w'.cell? ⟨gb311, 3, none⟩ = some (.slice Ao175 t304.length co175) ∧ w'.cell? ⟨gb311, 4, none⟩ = some (.slice Ao176 t307.length co176) ∧ w'.cell? ⟨gb311, 5, none⟩ = some (.int .i64 t310) ∧ w'.cell? ⟨gb276, 0, none⟩ = some (.int .i64 a0_0) ∧ w'.cell? ⟨gb276, 1, none⟩ = some (.int .i64 a0_1) ∧ w'.cell? ⟨gb276, 2, none⟩ = some (.int .i64 a0_2) ∧ w'.cell? ⟨gb276, 3, none⟩ = some (.slice A0_3 l0_3.length c0_3) ∧ w'.cell? ⟨gb276, 4, none⟩ = some (.slice A0_4 l0_4.length c0_4) ∧ w'.cell? ⟨gb276, 5, none⟩ = some (.int .i64 a0_5)) (ds := []) #[false, false, false, false, false] (by kernel_rfl) rfl rfl ⟨(blk_cell BK311.out 0).trans rfl, (blk_cell BK311.out 1).trans rfl, (blk_cell BK311.out 2).trans rfl, (blk_cell BK311.out 3).trans rfl, (blk_cell BK311.out 4).trans rfl, (blk_cell BK311.out 5).trans rfl, (blk_cell BK276.out 0).trans rfl, (blk_cell BK276.out 1).trans rfl, (blk_cell BK276.out 2).trans rfl, (blk_cell BK276.out 3).trans rfl, (blk_cell BK276.out 4).trans rfl, (blk_cell BK276.out 5).trans rfl⟩ (fun hHeld => ?_)
     generalize w187.drew = w188 at HO285 HO288 HO296 HO299 HO306 HO309 HO318 HO321 BK276 BK277 BK311 BK322 HB hHeld ⊢
     refine take_ (i := 0) (N := some 35) (v := ?_) (a' := ?_) #[true, false, false, false, false] rfl rfl (by kernel_rfl) (fun _ _ _ h => h) (Or.inl ⟨by rfl, ?_⟩) hHeld ?_ ?_
     rotate_left
     ·rintro w' ⟨s0, s1, s2, s3, s4, s5, s6, s7, s8, s9, s10, s11⟩
      go_simp
      with_reducible rfl
     rotate_left
     ·simp only [Act.put, List.setIfInBounds_toArray, List.set_cons_zero, List.set_cons_succ, i64_w, i32_w]
      rfl
     refine take_ (i := 1) (N := some 36) (v := ?_) (a' := ?_) #[true, true, false, false, false] rfl rfl (by kernel_rfl) (fun _ _ _ h => h) (Or.inl ⟨by rfl, ?_⟩) hHeld ?_ ?_
     rotate_left
     ·rintro w' ⟨s0, s1, s2, s3, s4, s5, s6, s7, s8, s9, s10, s11⟩
      go_simp
      with_reducible rfl
     rotate_left
     ·simp only [Act.put, List.setIfInBounds_toArray, List.set_cons_zero, List.set_cons_succ, i64_w, i32_w]
      rfl
     refine one_ (i := 2) (N := some 37) #[true, true, true, false, false] rfl rfl (by kernel_rfl) (by decide) (fun K hK => ?_)
     refine goes_ Try.func15 (by kernel_rfl) rfl #[.agg #[.int .i64 a0_0, .int .i64 a0_1, .int .i64 a0_2, .slice A0_3 l0_3.length c0_3, .slice A0_4 l0_4.length c0_4, .int .i64 a0_5]] (by rfl) rfl rfl (by (try simp only [List.map_toArray, List.map_cons, List.map_nil]); first | done | rfl | (simp only [List.length_drop, List.length_take]; rfl)) ?_
     with_reducible refine (laws_toReq.calls k a0_0 a0_1 a0_2 _ _ l0_3 _ _ l0_4 a0_5 t324 t325 t326 t327 t330 t333 _ ?side1 ?side2 ?side3 ?side4 A60.out).mono ?_
     (case side1 => exact cB HR0_3.out HB.out)
     (case side2 => exact HC0_3.out)
     (case side3 => exact cB HR0_4.out HB.out)
     (case side4 => exact HC0_4.out)
     rintro e w189 ⟨v328, v331, rfl, ho0, ho1, hb⟩
     refine ⟨_, rfl, ?_⟩
     have n0_ := aM (Kd.R_elder' (rA HO285.out) (Kd.R_base ho0) hb)
     have n1_ := aM (Kd.R_elder' (rA HO288.out) (Kd.R_base ho1) hb)
     have n2_ := aM (Kd.R_elder' (rA HO296.out) (Kd.R_base ho0) hb)
     have n3_ := aM (Kd.R_elder' (rA HO299.out) (Kd.R_base ho1) hb)
     have n4_ := aM (Kd.R_elder' (rA HO306.out) (Kd.R_base ho0) hb)
     have n5_ := aM (Kd.R_elder' (rA HO309.out) (Kd.R_base ho1) hb)
     have n6_ := aM (Kd.R_elder' (rA HO318.out) (Kd.R_base ho0) hb)
     have n7_ := aM (Kd.R_elder' (rA HO321.out) (Kd.R_base ho1) hb)
     have n8_ := aM (Kd.R_lower (Kd.R_new' (Kd.R_new' (Kd.R_new' (Kd.R_new' ho0 (Kd.R_lt (rA HO285.out))) (Kd.R_lt (rA HO296.out))) (Kd.R_lt (rA HO306.out))) (Kd.R_lt (rA HO318.out))) (below_size (bS HB.out)))
     have n9_ := aM (Kd.R_lower (Kd.R_new' (Kd.R_new' (Kd.R_new' (Kd.R_new' ho1 (Kd.R_lt (rA HO288.out))) (Kd.R_lt (rA HO299.out))) (Kd.R_lt (rA HO309.out))) (Kd.R_lt (rA HO321.out))) (below_size (bS HB.out)))
     have n10_ := aM (kB BK276.out hb)
     have n11_ := aM (kB BK277.out hb)
     have n12_ := aM (kB BK311.out hb)
     have n13_ := aM (kB BK322.out hb)
     have n14_ := aM (below_step (bS HB.out) hb)
     clear HO285
     clear HO288
     clear HO296
     clear HO299
     clear HO306
     clear HO309
     clear HO318
     clear HO321
     clear BK276
     clear BK277
     clear BK311
     clear BK322
     clear HB
     have HO285 := n0_
     have HO288 := n1_
     have HO296 := n2_
     have HO299 := n3_
     have HO306 := n4_
     have HO309 := n5_
     have HO318 := n6_
     have HO321 := n7_
     have HO329 := n8_
     have HO332 := n9_
     have BK276 := n10_
     have BK277 := n11_
     have BK311 := n12_
     have BK322 := n13_
     have HB := n14_
     clear n0_ n1_ n2_ n3_ n4_ n5_ n6_ n7_ n8_ n9_ n10_ n11_ n12_ n13_ n14_
     (try clear hb)
     (try clear hb2)
     (try clear hk)
     (try clear hi)
     (try clear ho0)
     (try clear ho1)
     obtain ⟨Ao190, co190, eo190⟩ := Kd.R_slice HO329.out
     (first | subst eo190 | (injection eo190 with f1_ f2_ f3_; have f4_ := f1_.symm; have f5_ := f3_.symm; clear f1_ f2_ f3_; subst f4_; subst f5_))
     obtain ⟨Ao191, co191, eo191⟩ := Kd.R_slice HO332.out
     (first | subst eo191 | (injection eo191 with f1_ f2_ f3_; have f4_ := f1_.symm; have f5_ := f3_.symm; clear f1_ f2_ f3_; subst f4_; subst f5_))
     refine hK.out _ _ ⟨(blk_cell BK311.out 0).trans rfl, (blk_cell BK311.out 1).trans rfl, (blk_cell BK311.out 2).trans rfl, (blk_cell BK311.out 3).trans rfl, (blk_cell BK311.out 4).trans rfl, (blk_cell BK311.out 5).trans rfl, (blk_cell BK276.out 0).trans rfl, (blk_cell BK276.out 1).trans rfl, (blk_cell BK276.out 2).trans rfl, (blk_cell BK276.out 3).trans rfl, (blk_cell BK276.out 4).trans rfl, (blk_cell BK276.out 5).trans rfl⟩ (fun hHeld => ?_)
     clear hK K
     refine norm_ (a' := ?_) ?_ ?_
     rotate_left
     ·show Act.put _ (some 37) _ = _
      simp only [Act.put, List.setIfInBounds_toArray, List.set_cons_zero, List.set_cons_succ, i64_w, i32_w]
      rfl
     refine one_ (i := 3) (N := some 38) #[true, true, true, true, false] rfl rfl (by kernel_rfl) (by decide) (fun K hK => ?_)
     refine goes_ Try.func17 (by kernel_rfl) rfl #[.agg #[.int .i64 t301, .int .i64 t302, .int .i64 t303, .slice Ao175 t304.length co175, .slice Ao176 t307.length co176, .int .i64 t310], .agg #[.int .i64 t324, .int .i64 t325, .int .i64 t326, .slice Ao190 t327.length co190, .slice Ao191 t330.length co191, .int .i64 t333]] (by rfl) rfl rfl (by (try simp only [List.map_toArray, List.map_cons, List.map_nil]); first | done | rfl | (simp only [List.length_drop, List.length_take]; rfl)) ?_
     with_reducible refine (laws_eqReq.calls k t301 t302 t303 _ _ t304 _ _ t307 t310 t324 t325 t326 _ _ t327 _ _ t330 t333 false _ ?side1 ?side2 ?side3 ?side4 ?side5 ?side6 ?side7 ?side8 A61.out).mono ?_
     (case side1 => exact cR HO306.out)
     (case side2 => exact (Kd.R_reads' HO306.out).2.1)
     (case side3 => exact cR HO309.out)
     (case side4 => exact (Kd.R_reads' HO309.out).2.1)
     (case side5 => exact cR HO329.out)
     (case side6 => exact (Kd.R_reads' HO329.out).2.1)
     (case side7 => exact cR HO332.out)
     (case side8 => exact (Kd.R_reads' HO332.out).2.1)
     rintro e w192 ⟨rfl, hb⟩
     refine ⟨_, rfl, ?_⟩
     have n0_ := aM (rB HO285.out hb)
     have n1_ := aM (rB HO288.out hb)
     have n2_ := aM (rB HO296.out hb)
     have n3_ := aM (rB HO299.out hb)
     have n4_ := aM (rB HO306.out hb)
     have n5_ := aM (rB HO309.out hb)
     have n6_ := aM (rB HO318.out hb)
     have n7_ := aM (rB HO321.out hb)
     have n8_ := aM (rB HO329.out hb)
     have n9_ := aM (rB HO332.out hb)
     have n10_ := aM (kB BK276.out hb)
     have n11_ := aM (kB BK277.out hb)
     have n12_ := aM (kB BK311.out hb)
     have n13_ := aM (kB BK322.out hb)
     have n14_ := aM (below_step (bS HB.out) hb)
     clear HO285
     clear HO288
     clear HO296
     clear HO299
     clear HO306
     clear HO309
     clear HO318
     clear HO321
     clear HO329
     clear HO332
     clear BK276
     clear BK277
     clear BK311
     clear BK322
     clear HB
     have HO285 := n0_
     have HO288 := n1_
     have HO296 := n2_
     have HO299 := n3_
     have HO306 := n4_
     have HO309 := n5_
     have HO318 := n6_
     have HO321 := n7_
     have HO329 := n8_
     have HO332 := n9_
     have BK276 := n10_
     have BK277 := n11_
     have BK311 := n12_
     have BK322 := n13_
     have HB := n14_
     clear n0_ n1_ n2_ n3_ n4_ n5_ n6_ n7_ n8_ n9_ n10_ n11_ n12_ n13_ n14_
     (try clear hb)
     (try clear hb2)
     (try clear hk)
     (try clear hi)
     refine hK.out _ _ ⟨(blk_cell BK311.out 0).trans rfl, (blk_cell BK311.out 1).trans rfl, (blk_cell BK311.out 2).trans rfl, (blk_cell BK311.out 3).trans rfl, (blk_cell BK311.out 4).trans rfl, (blk_cell BK311.out 5).trans rfl, (blk_cell BK276.out 0).trans rfl, (blk_cell BK276.out 1).trans rfl, (blk_cell BK276.out 2).trans rfl, (blk_cell BK276.out 3).trans rfl, (blk_cell BK276.out 4).trans rfl, (blk_cell BK276.out 5).trans rfl⟩ (fun hHeld => ?_)
     clear hK K
     refine norm_ (a' := ?_) ?_ ?_
     rotate_left
     ·show Act.put _ (some 38) _ = _
      simp only [Act.put, List.setIfInBounds_toArray, List.set_cons_zero, List.set_cons_succ, i64_w, i32_w]
      rfl
     refine pure_ (i := 4) (N := some 39) (v := ?_) (a' := ?_) #[true, true, true, true, true] rfl rfl (by kernel_rfl) (fun _ _ _ h => h) (Or.inl ⟨by rfl, ?_⟩) ?_ ?_
     rotate_left
     ·intro w'
      go_simp
      with_reducible rfl
     rotate_left
     ·simp only [Act.put, List.setIfInBounds_toArray, List.set_cons_zero, List.set_cons_succ, i64_w, i32_w]
      rfl
     refine done_ (by kernel_rfl) ?_
     try go_wp2
     go_ret
     exact ⟨by first | rfl | (simp [errW_none, errW_some] <;> rfl) | (simp [*, errW_none, errW_some] <;> rfl), bS HB.out⟩

end Go.Proofs.Ytbdifcgkokajlaa.PFnExactSuits
