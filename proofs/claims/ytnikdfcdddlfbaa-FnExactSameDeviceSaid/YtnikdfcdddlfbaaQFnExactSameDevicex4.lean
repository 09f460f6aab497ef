/- Functions and contracts of the law FnExactSameDevice: what the Go text computes, step by step. -/
import Derived.Test.YtnikdfcdddlfbaaK
import Derived.Test.YtnikdfcdddlfbaaQFnExactSameDevicex0
import Derived.Test.YtnikdfcdddlfbaaQFnExactSameDevicex1
import Derived.Test.YtnikdfcdddlfbaaQFnExactSameDevicex2
import Derived.Test.YtnikdfcdddlfbaaQFnExactSameDevicex3
namespace Go.Proofs.Ytnikdfcdddlfbaa.PFnExactSameDevice
open Go.Proofs.Ytnikdfcdddlfbaa.K Go.Proofs.Ytnikdfcdddlfbaa.G Go.RowKit Go.Proofs.YtnikdfcdddlfbaaW.PrintWords Go.Proofs.YtnikdfcdddlfbaaW.PrintLast Go.Proofs.YtnikdfcdddlfbaaW.PrintMore
attribute [local go_sem] max2_int min2_int max_two min_two max_three min_three max_four min_four   -- for this text's walks alone
set_option linter.unusedVariables false
set_option linter.unusedSimpArgs false

/-! ### laws_FnExactSameDevice: function 16 -/
def laws_FnExactSameDevice.f (k : Nat) (l0_0 : List Bool) (l0_1 : List Bool) (l0_2 : List Int) (l0_3 : List Int) (l1_0 : List Bool) (l1_1 : List Bool) (l1_2 : List Int) (l1_3 : List Int) : Option (Bool) := (laws_szDevice.f l0_0 l0_1 l0_2 l0_3 1048576).bind fun t163 => (if t163 < 0 then (some true) else ((laws_szDevice.f l1_0 l1_1 l1_2 l1_3 t163).bind fun t164 => (if t164 < 0 then (some true) else ((laws_toDevice.f k l0_0 l0_1 l0_2 l0_3).bind fun bt165 => ((laws_toDevice.f k l1_0 l1_1 l1_2 l1_3).bind fun bt177 => ((spec_SameDevice.f k bt165.1 bt165.2.1 bt165.2.2.1 bt165.2.2.2 bt177.1 bt177.2.1 bt177.2.2.1 bt177.2.2.2).bind fun t189 => ((laws_toDevice.f k l0_0 l0_1 l0_2 l0_3).bind fun bt190 => ((laws_toDevice.f k l1_0 l1_1 l1_2 l1_3).bind fun bt203 => ((impl_SameDevice.f k bt190.1 bt190.2.1 bt190.2.2.1 bt190.2.2.2 bt203.1 bt203.2.1 bt203.2.2.1 bt203.2.2.2).bind fun t216 => (if (t216 != t189) = true then (some false) else ((laws_toDevice.f k l0_0 l0_1 l0_2 l0_3).bind fun bt217 => ((laws_eqDevice.f k bt190.1 bt190.2.1 bt190.2.2.1 bt190.2.2.2 bt217.1 bt217.2.1 bt217.2.2.1 bt217.2.2.2).bind fun t229 => (if t229 = true then ((laws_toDevice.f k l1_0 l1_1 l1_2 l1_3).bind fun bt230 => ((laws_eqDevice.f k bt203.1 bt203.2.1 bt203.2.2.1 bt203.2.2.2 bt230.1 bt230.2.1 bt230.2.2.1 bt230.2.2.2).bind fun t242 => (if t242 = true then (some true) else (some false)))) else (some false))))))))))))))
theorem laws_FnExactSameDevice.mono : ∀ a0 a1 a2 a3 a4 a5 a6 a7 k, LeO (laws_FnExactSameDevice.f k a0 a1 a2 a3 a4 a5 a6 a7) (laws_FnExactSameDevice.f (k + 1) a0 a1 a2 a3 a4 a5 a6 a7) := by
  intro a0 a1 a2 a3 a4 a5 a6 a7 k
  unfold laws_FnExactSameDevice.f
  repeat' first
      | (with_reducible exact impl_SameDevice.mono _ _ _ _ _ _ _ _ _)
      | (with_reducible exact laws_eqDevice.mono _ _ _ _ _ _ _ _ _)
      | (with_reducible exact laws_toDevice.mono _ _ _ _ _)
      | (with_reducible exact spec_SameDevice.mono _ _ _ _ _ _ _ _ _)
      | (with_reducible exact LeO.refl _)
      | (with_reducible exact LeO.none _)
      | (with_reducible refine LeO.ite ?_ ?_)
      | (with_reducible refine LeO.bind ?_ (fun _ => ?_))
      | exact impl_SameDevice.mono _ _ _ _ _ _ _ _ _
      | exact laws_eqDevice.mono _ _ _ _ _ _ _ _ _
      | exact laws_toDevice.mono _ _ _ _ _
      | exact spec_SameDevice.mono _ _ _ _ _ _ _ _ _
      | exact LeO.none _
      | refine LeO.ite ?_ ?_
      | refine LeO.bind ?_ (fun _ => ?_)
set_option maxHeartbeats 8000000 in
set_option maxRecDepth 100000 in
theorem laws_FnExactSameDevice.calls (k : Nat) (A0_0 : Option Addr) (c0_0 : Nat) (l0_0 : List Bool) (A0_1 : Option Addr) (c0_1 : Nat) (l0_1 : List Bool) (A0_2 : Option Addr) (c0_2 : Nat) (l0_2 : List Int) (A0_3 : Option Addr) (c0_3 : Nat) (l0_3 : List Int) (A1_0 : Option Addr) (c1_0 : Nat) (l1_0 : List Bool) (A1_1 : Option Addr) (c1_1 : Nat) (l1_1 : List Bool) (A1_2 : Option Addr) (c1_2 : Nat) (l1_2 : List Int) (A1_3 : Option Addr) (c1_3 : Nat) (l1_3 : List Int) (r : Bool) (w : World) (hr0_0 : Kd.C Kd.bool w A0_0 l0_0.length l0_0) (hc0_0 : l0_0.length ≤ c0_0) (hr0_1 : Kd.C Kd.bool w A0_1 l0_1.length l0_1) (hc0_1 : l0_1.length ≤ c0_1) (hr0_2 : Kd.C (Kd.int .i64) w A0_2 l0_2.length l0_2) (hc0_2 : l0_2.length ≤ c0_2) (hr0_3 : Kd.C (Kd.int .i64) w A0_3 l0_3.length l0_3) (hc0_3 : l0_3.length ≤ c0_3) (hr1_0 : Kd.C Kd.bool w A1_0 l1_0.length l1_0) (hc1_0 : l1_0.length ≤ c1_0) (hr1_1 : Kd.C Kd.bool w A1_1 l1_1.length l1_1) (hc1_1 : l1_1.length ≤ c1_1) (hr1_2 : Kd.C (Kd.int .i64) w A1_2 l1_2.length l1_2) (hc1_2 : l1_2.length ≤ c1_2) (hr1_3 : Kd.C (Kd.int .i64) w A1_3 l1_3.length l1_3) (hc1_3 : l1_3.length ≤ c1_3) (h : laws_FnExactSameDevice.f k l0_0 l0_1 l0_2 l0_3 l1_0 l1_1 l1_2 l1_3 = some r) :
    Calls Try.prog 16 #[.agg #[.slice A0_0 l0_0.length c0_0, .slice A0_1 l0_1.length c0_1, .slice A0_2 l0_2.length c0_2, .slice A0_3 l0_3.length c0_3], .agg #[.slice A1_0 l1_0.length c1_0, .slice A1_1 l1_1.length c1_1, .slice A1_2 l1_2.length c1_2, .slice A1_3 l1_3.length c1_3]] w fun e w' => e = .returned (.bool r) ∧ Below w.heap.size w w' := by
  have hu81 := Try.underlying81
  have hu72 := Try.underlying72
  have HR0_0 := Aside0.mk hr0_0
  have HC0_0 := Aside0.mk hc0_0
  clear hr0_0 hc0_0
  have HR0_1 := Aside0.mk hr0_1
  have HC0_1 := Aside0.mk hc0_1
  clear hr0_1 hc0_1
  have HR0_2 := Aside0.mk hr0_2
  have HC0_2 := Aside0.mk hc0_2
  clear hr0_2 hc0_2
  have HR0_3 := Aside0.mk hr0_3
  have HC0_3 := Aside0.mk hc0_3
  clear hr0_3 hc0_3
  have HR1_0 := Aside0.mk hr1_0
  have HC1_0 := Aside0.mk hc1_0
  clear hr1_0 hc1_0
  have HR1_1 := Aside0.mk hr1_1
  have HC1_1 := Aside0.mk hc1_1
  clear hr1_1 hc1_1
  have HR1_2 := Aside0.mk hr1_2
  have HC1_2 := Aside0.mk hc1_2
  clear hr1_2 hc1_2
  have HR1_3 := Aside0.mk hr1_3
  have HC1_3 := Aside0.mk hc1_3
  clear hr1_3 hc1_3
  have HB := Aside0.mk (Below.refl w.heap.size w)
  have H : ((laws_szDevice.f l0_0 l0_1 l0_2 l0_3 1048576).bind fun t163 => (if t163 < 0 then (some true) else ((laws_szDevice.f l1_0 l1_1 l1_2 l1_3 t163).bind fun t164 => (if t164 < 0 then (some true) else ((laws_toDevice.f k l0_0 l0_1 l0_2 l0_3).bind fun bt165 => ((laws_toDevice.f k l1_0 l1_1 l1_2 l1_3).bind fun bt177 => ((spec_SameDevice.f k bt165.1 bt165.2.1 bt165.2.2.1 bt165.2.2.2 bt177.1 bt177.2.1 bt177.2.2.1 bt177.2.2.2).bind fun t189 => ((laws_toDevice.f k l0_0 l0_1 l0_2 l0_3).bind fun bt190 => ((laws_toDevice.f k l1_0 l1_1 l1_2 l1_3).bind fun bt203 => ((impl_SameDevice.f k bt190.1 bt190.2.1 bt190.2.2.1 bt190.2.2.2 bt203.1 bt203.2.1 bt203.2.2.1 bt203.2.2.2).bind fun t216 => (if (t216 != t189) = true then (some false) else ((laws_toDevice.f k l0_0 l0_1 l0_2 l0_3).bind fun bt217 => ((laws_eqDevice.f k bt190.1 bt190.2.1 bt190.2.2.1 bt190.2.2.2 bt217.1 bt217.2.1 bt217.2.2.1 bt217.2.2.2).bind fun t229 => (if t229 = true then ((laws_toDevice.f k l1_0 l1_1 l1_2 l1_3).bind fun bt230 => ((laws_eqDevice.f k bt203.1 bt203.2.1 bt203.2.2.1 bt203.2.2.2 bt230.1 bt230.2.1 bt230.2.2.1 bt230.2.2.2).bind fun t242 => (if t242 = true then (some true) else (some false)))) else (some false))))))))))))))) = some r := h
  clear h
  replace H := Option.bind_eq_some_iff.mp H
  obtain ⟨t163, A30, H⟩ := H
  replace H : (if t163 < 0 then (some true) else ((laws_szDevice.f l1_0 l1_1 l1_2 l1_3 t163).bind fun t164 => (if t164 < 0 then (some true) else ((laws_toDevice.f k l0_0 l0_1 l0_2 l0_3).bind fun bt165 => ((laws_toDevice.f k l1_0 l1_1 l1_2 l1_3).bind fun bt177 => ((spec_SameDevice.f k bt165.1 bt165.2.1 bt165.2.2.1 bt165.2.2.2 bt177.1 bt177.2.1 bt177.2.2.1 bt177.2.2.2).bind fun t189 => ((laws_toDevice.f k l0_0 l0_1 l0_2 l0_3).bind fun bt190 => ((laws_toDevice.f k l1_0 l1_1 l1_2 l1_3).bind fun bt203 => ((impl_SameDevice.f k bt190.1 bt190.2.1 bt190.2.2.1 bt190.2.2.2 bt203.1 bt203.2.1 bt203.2.2.1 bt203.2.2.2).bind fun t216 => (if (t216 != t189) = true then (some false) else ((laws_toDevice.f k l0_0 l0_1 l0_2 l0_3).bind fun bt217 => ((laws_eqDevice.f k bt190.1 bt190.2.1 bt190.2.2.1 bt190.2.2.2 bt217.1 bt217.2.1 bt217.2.2.1 bt217.2.2.2).bind fun t229 => (if t229 = true then ((laws_toDevice.f k l1_0 l1_1 l1_2 l1_3).bind fun bt230 => ((laws_eqDevice.f k bt203.1 bt203.2.1 bt203.2.2.1 bt203.2.2.2 bt230.1 bt230.2.1 bt230.2.2.1 bt230.2.2.2).bind fun t242 => (if t242 = true then (some true) else (some false)))) else (some false)))))))))))))) = some r := H
  have A3 := Aside0.mk A30
  clear A30
  by_cases c4 : t163 < 0
  · rw [if_pos c4] at H
    have c4b0 : decide (t163 < 0) = true := decide_eq_true c4
    clear c4
    obtain rfl := Option.some.inj H
    go_enter Try.func16, Try.ntmps16
    go_wp2_with (first | ((with_reducible refine gate_dst (N := 2) rfl ?_); refine box_event ?hg (N := 2) ?hd (cs := #[.slice A0_0 l0_0.length c0_0, .slice A0_1 l0_1.length c0_1, .slice A0_2 l0_2.length c0_2, .slice A0_3 l0_3.length c0_3]) (t := 81) ?hr ?_; (case hd => rfl); (case hg => rfl); (case hr => first | (go_simp; done) | (go_simp; rfl)); intro gb161 hg w5 hbox hb; have n0_ := Aside0.mk (below_step (bS HB.out) hb); have n1_ := Aside0.mk (hbox); have n2_ := Aside0.mk ((by rw [hg]; exact (below_size (bS HB.out)) : w.heap.size ≤ gb161)); have n3_ := n2_; clear HB; have HB := n0_; have BK161 := n1_; have GW161 := n2_; have GE161 := n3_; clear n0_ n1_ n2_ n3_; clear hb hbox hg) | ((with_reducible refine gate_dst (N := 3) rfl ?_); refine box_event ?hg (N := 3) ?hd (cs := #[.slice A1_0 l1_0.length c1_0, .slice A1_1 l1_1.length c1_1, .slice A1_2 l1_2.length c1_2, .slice A1_3 l1_3.length c1_3]) (t := 81) ?hr ?_; (case hd => rfl); (case hg => rfl); (case hr => first | (go_simp; done) | (go_simp; rfl)); intro gb162 hg w6 hbox hb; have n0_ := Aside0.mk (blk_below (kA BK161.out) hb); have n1_ := Aside0.mk (below_step (bS HB.out) hb); have n2_ := Aside0.mk (hbox); have n3_ := Aside0.mk ((by rw [hg]; exact (below_size (bS HB.out)) : w.heap.size ≤ gb162)); have n4_ := n3_; have n5_ := Aside0.mk ((by rw [hg]; exact Nat.ne_of_lt (blk_lt (g := gb161) (o := .cells #[.slice A0_0 l0_0.length c0_0, .slice A0_1 l0_1.length c0_1, .slice A0_2 l0_2.length c0_2, .slice A0_3 l0_3.length c0_3] 81 (0, 0)) (kA BK161.out)) : gb161 ≠ gb162)); have n6_ := Aside0.mk ((by rw [hg]; exact Nat.ne_of_gt (blk_lt (g := gb161) (o := .cells #[.slice A0_0 l0_0.length c0_0, .slice A0_1 l0_1.length c0_1, .slice A0_2 l0_2.length c0_2, .slice A0_3 l0_3.length c0_3] 81 (0, 0)) (kA BK161.out)) : gb162 ≠ gb161)); clear BK161 HB; have BK161 := n0_; have HB := n1_; have BK162 := n2_; have GW162 := n3_; have GE162 := n4_; have NB161_162 := n5_; have NB162_161 := n6_; clear n0_ n1_ n2_ n3_ n4_ n5_ n6_; clear hb hbox hg; have hnb7 := NB161_162.out; have hnc7 := NB162_161.out; obtain ⟨hcz8_0, hfz8_0, hcz8_1, hfz8_1, hcz8_2, hfz8_2, hcz8_3, hfz8_3⟩ := bk4 BK161.out) | ((with_reducible refine gate_callee (f := 67) rfl ?_); refine gL (some 12) rfl rfl Try.func67 (by kernel_rfl) rfl #[.agg #[.slice A0_0 l0_0.length c0_0, .slice A0_1 l0_1.length c0_1, .slice A0_2 l0_2.length c0_2, .slice A0_3 l0_3.length c0_3], .int .i64 1048576] rfl ?_; (with_reducible refine (laws_szDevice.calls _ _ l0_0 _ _ l0_1 _ _ l0_2 _ _ l0_3 1048576 t163 _ ?side1 ?side2 ?side3 ?side4 ?side5 ?side6 ?side7 ?side8 A3.out).mono ?_); (case side1 => exact cB HR0_0.out HB.out); (case side2 => exact HC0_0.out); (case side3 => exact cB HR0_1.out HB.out); (case side4 => exact HC0_1.out); (case side5 => exact cB HR0_2.out HB.out); (case side6 => exact HC0_2.out); (case side7 => exact cB HR0_3.out HB.out); (case side8 => exact HC0_3.out); rintro e w9 ⟨rfl, hb⟩; refine ⟨_, rfl, ?_⟩; have n0_ := Aside0.mk (blk_below (kA BK161.out) hb); have n1_ := Aside0.mk (blk_below (kA BK162.out) hb); have n2_ := Aside0.mk (below_step (bS HB.out) hb); clear BK161 BK162 HB; have BK161 := n0_; have BK162 := n1_; have HB := n2_; clear n0_ n1_ n2_; (try clear hb); (try clear hk); (try clear hi)))
    go_ret
    exact ⟨by first | rfl | (simp [errW_none, errW_some] <;> rfl) | (simp [*, errW_none, errW_some] <;> rfl), by repeat (first | (with_reducible first | exact HB.out | apply below_alloc | apply pw_below_drewN | apply below_drew1 | refine below_set ?_ GE161.out | refine below_set ?_ GE162.out) | exact HB.out)⟩
  · rw [if_neg c4] at H
    have c4b0 : decide (t163 < 0) = false := decide_eq_false c4
    clear c4
    replace H := Option.bind_eq_some_iff.mp H
    obtain ⟨t164, A100, H⟩ := H
    replace H : (if t164 < 0 then (some true) else ((laws_toDevice.f k l0_0 l0_1 l0_2 l0_3).bind fun bt165 => ((laws_toDevice.f k l1_0 l1_1 l1_2 l1_3).bind fun bt177 => ((spec_SameDevice.f k bt165.1 bt165.2.1 bt165.2.2.1 bt165.2.2.2 bt177.1 bt177.2.1 bt177.2.2.1 bt177.2.2.2).bind fun t189 => ((laws_toDevice.f k l0_0 l0_1 l0_2 l0_3).bind fun bt190 => ((laws_toDevice.f k l1_0 l1_1 l1_2 l1_3).bind fun bt203 => ((impl_SameDevice.f k bt190.1 bt190.2.1 bt190.2.2.1 bt190.2.2.2 bt203.1 bt203.2.1 bt203.2.2.1 bt203.2.2.2).bind fun t216 => (if (t216 != t189) = true then (some false) else ((laws_toDevice.f k l0_0 l0_1 l0_2 l0_3).bind fun bt217 => ((laws_eqDevice.f k bt190.1 bt190.2.1 bt190.2.2.1 bt190.2.2.2 bt217.1 bt217.2.1 bt217.2.2.1 bt217.2.2.2).bind fun t229 => (if t229 = true then ((laws_toDevice.f k l1_0 l1_1 l1_2 l1_3).bind fun bt230 => ((laws_eqDevice.f k bt203.1 bt203.2.1 bt203.2.2.1 bt203.2.2.2 bt230.1 bt230.2.1 bt230.2.2.1 bt230.2.2.2).bind fun t242 => (if t242 = true then (some true) else (some false)))) else (some false)))))))))))) = some r := H
    have A10 := Aside0.mk A100
    clear A100
    by_cases c11 : t164 < 0
    · rw [if_pos c11] at H
      have c11b0 : decide (t164 < 0) = true := decide_eq_true c11
      clear c11
      obtain rfl := Option.some.inj H
      go_enter Try.func16, Try.ntmps16
      go_wp2_with (first | ((with_reducible refine gate_dst (N := 2) rfl ?_); refine box_event ?hg (N := 2) ?hd (cs := #[.slice A0_0 l0_0.length c0_0, .slice A0_1 l0_1.length c0_1, .slice A0_2 l0_2.length c0_2, .slice A0_3 l0_3.length c0_3]) (t := 81) ?hr ?_; (case hd => rfl); (case hg => rfl); (case hr => first | (go_simp; done) | (go_simp; rfl)); intro gb161 hg w12 hbox hb; have n0_ := Aside0.mk (below_step (bS HB.out) hb); have n1_ := Aside0.mk (hbox); have n2_ := Aside0.mk ((by rw [hg]; exact (below_size (bS HB.out)) : w.heap.size ≤ gb161)); have n3_ := n2_; clear HB; have HB := n0_; have BK161 := n1_; have GW161 := n2_; have GE161 := n3_; clear n0_ n1_ n2_ n3_; clear hb hbox hg) | ((with_reducible refine gate_dst (N := 3) rfl ?_); refine box_event ?hg (N := 3) ?hd (cs := #[.slice A1_0 l1_0.length c1_0, .slice A1_1 l1_1.length c1_1, .slice A1_2 l1_2.length c1_2, .slice A1_3 l1_3.length c1_3]) (t := 81) ?hr ?_; (case hd => rfl); (case hg => rfl); (case hr => first | (go_simp; done) | (go_simp; rfl)); intro gb162 hg w13 hbox hb; have n0_ := Aside0.mk (blk_below (kA BK161.out) hb); have n1_ := Aside0.mk (below_step (bS HB.out) hb); have n2_ := Aside0.mk (hbox); have n3_ := Aside0.mk ((by rw [hg]; exact (below_size (bS HB.out)) : w.heap.size ≤ gb162)); have n4_ := n3_; have n5_ := Aside0.mk ((by rw [hg]; exact Nat.ne_of_lt (blk_lt (g := gb161) (o := .cells #[.slice A0_0 l0_0.length c0_0, .slice A0_1 l0_1.length c0_1, .slice A0_2 l0_2.length c0_2, .slice A0_3 l0_3.length c0_3] 81 (0, 0)) (kA BK161.out)) : gb161 ≠ gb162)); have n6_ := Aside0.mk ((by rw [hg]; exact Nat.ne_of_gt (blk_lt (g := gb161) (o := .cells #[.slice A0_0 l0_0.length c0_0, .slice A0_1 l0_1.length c0_1, .slice A0_2 l0_2.length c0_2, .slice A0_3 l0_3.length c0_3] 81 (0, 0)) (kA BK161.out)) : gb162 ≠ gb161)); clear BK161 HB; have BK161 := n0_; have HB := n1_; have BK162 := n2_; have GW162 := n3_; have GE162 := n4_; have NB161_162 := n5_; have NB162_161 := n6_; clear n0_ n1_ n2_ n3_ n4_ n5_ n6_; clear hb hbox hg; have hnb14 := NB161_162.out; have hnc14 := NB162_161.out; obtain ⟨hcz15_0, hfz15_0, hcz15_1, hfz15_1, hcz15_2, hfz15_2, hcz15_3, hfz15_3⟩ := bk4 BK161.out) | ((with_reducible refine gate_callee (f := 67) rfl ?_); refine gL (some 12) rfl rfl Try.func67 (by kernel_rfl) rfl #[.agg #[.slice A0_0 l0_0.length c0_0, .slice A0_1 l0_1.length c0_1, .slice A0_2 l0_2.length c0_2, .slice A0_3 l0_3.length c0_3], .int .i64 1048576] rfl ?_; (with_reducible refine (laws_szDevice.calls _ _ l0_0 _ _ l0_1 _ _ l0_2 _ _ l0_3 1048576 t163 _ ?side1 ?side2 ?side3 ?side4 ?side5 ?side6 ?side7 ?side8 A3.out).mono ?_); (case side1 => exact cB HR0_0.out HB.out); (case side2 => exact HC0_0.out); (case side3 => exact cB HR0_1.out HB.out); (case side4 => exact HC0_1.out); (case side5 => exact cB HR0_2.out HB.out); (case side6 => exact HC0_2.out); (case side7 => exact cB HR0_3.out HB.out); (case side8 => exact HC0_3.out); rintro e w16 ⟨rfl, hb⟩; refine ⟨_, rfl, ?_⟩; have n0_ := Aside0.mk (blk_below (kA BK161.out) hb); have n1_ := Aside0.mk (blk_below (kA BK162.out) hb); have n2_ := Aside0.mk (below_step (bS HB.out) hb); clear BK161 BK162 HB; have BK161 := n0_; have BK162 := n1_; have HB := n2_; clear n0_ n1_ n2_; (try clear hb); (try clear hk); (try clear hi); obtain ⟨hcz17_0, hfz17_0, hcz17_1, hfz17_1, hcz17_2, hfz17_2, hcz17_3, hfz17_3⟩ := bk4 BK162.out) | ((with_reducible refine gate_callee (f := 67) rfl ?_); refine gL (some 17) rfl rfl Try.func67 (by kernel_rfl) rfl #[.agg #[.slice A1_0 l1_0.length c1_0, .slice A1_1 l1_1.length c1_1, .slice A1_2 l1_2.length c1_2, .slice A1_3 l1_3.length c1_3], .int .i64 t163] rfl ?_; (with_reducible refine (laws_szDevice.calls _ _ l1_0 _ _ l1_1 _ _ l1_2 _ _ l1_3 t163 t164 _ ?side1 ?side2 ?side3 ?side4 ?side5 ?side6 ?side7 ?side8 A10.out).mono ?_); (case side1 => exact cB HR1_0.out HB.out); (case side2 => exact HC1_0.out); (case side3 => exact cB HR1_1.out HB.out); (case side4 => exact HC1_1.out); (case side5 => exact cB HR1_2.out HB.out); (case side6 => exact HC1_2.out); (case side7 => exact cB HR1_3.out HB.out); (case side8 => exact HC1_3.out); rintro e w18 ⟨rfl, hb⟩; refine ⟨_, rfl, ?_⟩; have n0_ := Aside0.mk (blk_below (kA BK161.out) hb); have n1_ := Aside0.mk (blk_below (kA BK162.out) hb); have n2_ := Aside0.mk (below_step (bS HB.out) hb); clear BK161 BK162 HB; have BK161 := n0_; have BK162 := n1_; have HB := n2_; clear n0_ n1_ n2_; (try clear hb); (try clear hk); (try clear hi)))
      go_ret
      exact ⟨by first | rfl | (simp [errW_none, errW_some] <;> rfl) | (simp [*, errW_none, errW_some] <;> rfl), by repeat (first | (with_reducible first | exact HB.out | apply below_alloc | apply pw_below_drewN | apply below_drew1 | refine below_set ?_ GE161.out | refine below_set ?_ GE162.out) | exact HB.out)⟩
    · rw [if_neg c11] at H
      have c11b0 : decide (t164 < 0) = false := decide_eq_false c11
      clear c11
      replace H := Option.bind_eq_some_iff.mp H
      obtain ⟨⟨t165, t168, t171, t174⟩, A190, H⟩ := H
      replace H : ((laws_toDevice.f k l1_0 l1_1 l1_2 l1_3).bind fun bt177 => ((spec_SameDevice.f k t165 t168 t171 t174 bt177.1 bt177.2.1 bt177.2.2.1 bt177.2.2.2).bind fun t189 => ((laws_toDevice.f k l0_0 l0_1 l0_2 l0_3).bind fun bt190 => ((laws_toDevice.f k l1_0 l1_1 l1_2 l1_3).bind fun bt203 => ((impl_SameDevice.f k bt190.1 bt190.2.1 bt190.2.2.1 bt190.2.2.2 bt203.1 bt203.2.1 bt203.2.2.1 bt203.2.2.2).bind fun t216 => (if (t216 != t189) = true then (some false) else ((laws_toDevice.f k l0_0 l0_1 l0_2 l0_3).bind fun bt217 => ((laws_eqDevice.f k bt190.1 bt190.2.1 bt190.2.2.1 bt190.2.2.2 bt217.1 bt217.2.1 bt217.2.2.1 bt217.2.2.2).bind fun t229 => (if t229 = true then ((laws_toDevice.f k l1_0 l1_1 l1_2 l1_3).bind fun bt230 => ((laws_eqDevice.f k bt203.1 bt203.2.1 bt203.2.2.1 bt203.2.2.2 bt230.1 bt230.2.1 bt230.2.2.1 bt230.2.2.2).bind fun t242 => (if t242 = true then (some true) else (some false)))) else (some false)))))))))) = some r := H
      have A19 := Aside0.mk A190
      clear A190
      replace H := Option.bind_eq_some_iff.mp H
      obtain ⟨⟨t177, t180, t183, t186⟩, A200, H⟩ := H
      replace H : ((spec_SameDevice.f k t165 t168 t171 t174 t177 t180 t183 t186).bind fun t189 => ((laws_toDevice.f k l0_0 l0_1 l0_2 l0_3).bind fun bt190 => ((laws_toDevice.f k l1_0 l1_1 l1_2 l1_3).bind fun bt203 => ((impl_SameDevice.f k bt190.1 bt190.2.1 bt190.2.2.1 bt190.2.2.2 bt203.1 bt203.2.1 bt203.2.2.1 bt203.2.2.2).bind fun t216 => (if (t216 != t189) = true then (some false) else ((laws_toDevice.f k l0_0 l0_1 l0_2 l0_3).bind fun bt217 => ((laws_eqDevice.f k bt190.1 bt190.2.1 bt190.2.2.1 bt190.2.2.2 bt217.1 bt217.2.1 bt217.2.2.1 bt217.2.2.2).bind fun t229 => (if t229 = true then ((laws_toDevice.f k l1_0 l1_1 l1_2 l1_3).bind fun bt230 => ((laws_eqDevice.f k bt203.1 bt203.2.1 bt203.2.2.1 bt203.2.2.2 bt230.1 bt230.2.1 bt230.2.2.1 bt230.2.2.2).bind fun t242 => (if t242 = true then (some true) else (some false)))) else (some false))))))))) = some r := H
      have A20 := Aside0.mk A200
      clear A200
      replace H := Option.bind_eq_some_iff.mp H
      obtain ⟨t189, A210, H⟩ := H
      replace H : ((laws_toDevice.f k l0_0 l0_1 l0_2 l0_3).bind fun bt190 => ((laws_toDevice.f k l1_0 l1_1 l1_2 l1_3).bind fun bt203 => ((impl_SameDevice.f k bt190.1 bt190.2.1 bt190.2.2.1 bt190.2.2.2 bt203.1 bt203.2.1 bt203.2.2.1 bt203.2.2.2).bind fun t216 => (if (t216 != t189) = true then (some false) else ((laws_toDevice.f k l0_0 l0_1 l0_2 l0_3).bind fun bt217 => ((laws_eqDevice.f k bt190.1 bt190.2.1 bt190.2.2.1 bt190.2.2.2 bt217.1 bt217.2.1 bt217.2.2.1 bt217.2.2.2).bind fun t229 => (if t229 = true then ((laws_toDevice.f k l1_0 l1_1 l1_2 l1_3).bind fun bt230 => ((laws_eqDevice.f k bt203.1 bt203.2.1 bt203.2.2.1 bt203.2.2.2 bt230.1 bt230.2.1 bt230.2.2.1 bt230.2.2.2).bind fun t242 => (if t242 = true then (some true) else (some false)))) else (some false)))))))) = some r := H
      have A21 := Aside0.mk A210
      clear A210
      replace H := Option.bind_eq_some_iff.mp H
      obtain ⟨⟨t190, t193, t196, t199⟩, A220, H⟩ := H
      replace H : ((laws_toDevice.f k l1_0 l1_1 l1_2 l1_3).bind fun bt203 => ((impl_SameDevice.f k t190 t193 t196 t199 bt203.1 bt203.2.1 bt203.2.2.1 bt203.2.2.2).bind fun t216 => (if (t216 != t189) = true then (some false) else ((laws_toDevice.f k l0_0 l0_1 l0_2 l0_3).bind fun bt217 => ((laws_eqDevice.f k t190 t193 t196 t199 bt217.1 bt217.2.1 bt217.2.2.1 bt217.2.2.2).bind fun t229 => (if t229 = true then ((laws_toDevice.f k l1_0 l1_1 l1_2 l1_3).bind fun bt230 => ((laws_eqDevice.f k bt203.1 bt203.2.1 bt203.2.2.1 bt203.2.2.2 bt230.1 bt230.2.1 bt230.2.2.1 bt230.2.2.2).bind fun t242 => (if t242 = true then (some true) else (some false)))) else (some false))))))) = some r := H
      have A22 := Aside0.mk A220
      clear A220
      replace H := Option.bind_eq_some_iff.mp H
      obtain ⟨⟨t203, t206, t209, t212⟩, A230, H⟩ := H
      replace H : ((impl_SameDevice.f k t190 t193 t196 t199 t203 t206 t209 t212).bind fun t216 => (if (t216 != t189) = true then (some false) else ((laws_toDevice.f k l0_0 l0_1 l0_2 l0_3).bind fun bt217 => ((laws_eqDevice.f k t190 t193 t196 t199 bt217.1 bt217.2.1 bt217.2.2.1 bt217.2.2.2).bind fun t229 => (if t229 = true then ((laws_toDevice.f k l1_0 l1_1 l1_2 l1_3).bind fun bt230 => ((laws_eqDevice.f k t203 t206 t209 t212 bt230.1 bt230.2.1 bt230.2.2.1 bt230.2.2.2).bind fun t242 => (if t242 = true then (some true) else (some false)))) else (some false)))))) = some r := H
      have A23 := Aside0.mk A230
      clear A230
      replace H := Option.bind_eq_some_iff.mp H
      obtain ⟨t216, A240, H⟩ := H
      replace H : (if (t216 != t189) = true then (some false) else ((laws_toDevice.f k l0_0 l0_1 l0_2 l0_3).bind fun bt217 => ((laws_eqDevice.f k t190 t193 t196 t199 bt217.1 bt217.2.1 bt217.2.2.1 bt217.2.2.2).bind fun t229 => (if t229 = true then ((laws_toDevice.f k l1_0 l1_1 l1_2 l1_3).bind fun bt230 => ((laws_eqDevice.f k t203 t206 t209 t212 bt230.1 bt230.2.1 bt230.2.2.1 bt230.2.2.2).bind fun t242 => (if t242 = true then (some true) else (some false)))) else (some false))))) = some r := H
      have A24 := Aside0.mk A240
      clear A240
      by_cases c25 : (t216 != t189) = true
      · rw [if_pos c25] at H
        have c25b0 : (t216 != t189) = true := c25
        (try (have c25b1 : decide (t216 = t189) = false := by simpa using c25))
        (try (have c25b2 : (t216 == t189) = false := by simpa using c25))
        (try (have c25b3 : ¬ (t216 = t189) := by simpa using c25))
        clear c25
        obtain rfl := Option.some.inj H
        go_enter Try.func16, Try.ntmps16
        try go_wp2_with (first | ((with_reducible refine gate_dst (N := 2) rfl ?_); refine box_event ?hg (N := 2) ?hd (cs := #[.slice A0_0 l0_0.length c0_0, .slice A0_1 l0_1.length c0_1, .slice A0_2 l0_2.length c0_2, .slice A0_3 l0_3.length c0_3]) (t := 81) ?hr ?_; (case hd => rfl); (case hg => rfl); (case hr => first | (go_simp; done) | (go_simp; rfl)); intro gb161 hg w26 hbox hb; have n0_ := Aside0.mk (below_step (bS HB.out) hb); have n1_ := Aside0.mk (hbox); have n2_ := Aside0.mk ((by rw [hg]; exact (below_size (bS HB.out)) : w.heap.size ≤ gb161)); have n3_ := n2_; clear HB; have HB := n0_; have BK161 := n1_; have GW161 := n2_; have GE161 := n3_; clear n0_ n1_ n2_ n3_; clear hb hbox hg) | ((with_reducible refine gate_dst (N := 3) rfl ?_); refine box_event ?hg (N := 3) ?hd (cs := #[.slice A1_0 l1_0.length c1_0, .slice A1_1 l1_1.length c1_1, .slice A1_2 l1_2.length c1_2, .slice A1_3 l1_3.length c1_3]) (t := 81) ?hr ?_; (case hd => rfl); (case hg => rfl); (case hr => first | (go_simp; done) | (go_simp; rfl)); intro gb162 hg w27 hbox hb; have n0_ := Aside0.mk (blk_below (kA BK161.out) hb); have n1_ := Aside0.mk (below_step (bS HB.out) hb); have n2_ := Aside0.mk (hbox); have n3_ := Aside0.mk ((by rw [hg]; exact (below_size (bS HB.out)) : w.heap.size ≤ gb162)); have n4_ := n3_; have n5_ := Aside0.mk ((by rw [hg]; exact Nat.ne_of_lt (blk_lt (g := gb161) (o := .cells #[.slice A0_0 l0_0.length c0_0, .slice A0_1 l0_1.length c0_1, .slice A0_2 l0_2.length c0_2, .slice A0_3 l0_3.length c0_3] 81 (0, 0)) (kA BK161.out)) : gb161 ≠ gb162)); have n6_ := Aside0.mk ((by rw [hg]; exact Nat.ne_of_gt (blk_lt (g := gb161) (o := .cells #[.slice A0_0 l0_0.length c0_0, .slice A0_1 l0_1.length c0_1, .slice A0_2 l0_2.length c0_2, .slice A0_3 l0_3.length c0_3] 81 (0, 0)) (kA BK161.out)) : gb162 ≠ gb161)); clear BK161 HB; have BK161 := n0_; have HB := n1_; have BK162 := n2_; have GW162 := n3_; have GE162 := n4_; have NB161_162 := n5_; have NB162_161 := n6_; clear n0_ n1_ n2_ n3_ n4_ n5_ n6_; clear hb hbox hg; have hnb28 := NB161_162.out; have hnc28 := NB162_161.out; obtain ⟨hcz29_0, hfz29_0, hcz29_1, hfz29_1, hcz29_2, hfz29_2, hcz29_3, hfz29_3⟩ := bk4 BK161.out) | ((with_reducible refine gate_callee (f := 67) rfl ?_); refine gL (some 12) rfl rfl Try.func67 (by kernel_rfl) rfl #[.agg #[.slice A0_0 l0_0.length c0_0, .slice A0_1 l0_1.length c0_1, .slice A0_2 l0_2.length c0_2, .slice A0_3 l0_3.length c0_3], .int .i64 1048576] rfl ?_; (with_reducible refine (laws_szDevice.calls _ _ l0_0 _ _ l0_1 _ _ l0_2 _ _ l0_3 1048576 t163 _ ?side1 ?side2 ?side3 ?side4 ?side5 ?side6 ?side7 ?side8 A3.out).mono ?_); (case side1 => exact cB HR0_0.out HB.out); (case side2 => exact HC0_0.out); (case side3 => exact cB HR0_1.out HB.out); (case side4 => exact HC0_1.out); (case side5 => exact cB HR0_2.out HB.out); (case side6 => exact HC0_2.out); (case side7 => exact cB HR0_3.out HB.out); (case side8 => exact HC0_3.out); rintro e w30 ⟨rfl, hb⟩; refine ⟨_, rfl, ?_⟩; have n0_ := Aside0.mk (blk_below (kA BK161.out) hb); have n1_ := Aside0.mk (blk_below (kA BK162.out) hb); have n2_ := Aside0.mk (below_step (bS HB.out) hb); clear BK161 BK162 HB; have BK161 := n0_; have BK162 := n1_; have HB := n2_; clear n0_ n1_ n2_; (try clear hb); (try clear hk); (try clear hi); obtain ⟨hcz31_0, hfz31_0, hcz31_1, hfz31_1, hcz31_2, hfz31_2, hcz31_3, hfz31_3⟩ := bk4 BK162.out) | ((with_reducible refine gate_callee (f := 67) rfl ?_); refine gL (some 17) rfl rfl Try.func67 (by kernel_rfl) rfl #[.agg #[.slice A1_0 l1_0.length c1_0, .slice A1_1 l1_1.length c1_1, .slice A1_2 l1_2.length c1_2, .slice A1_3 l1_3.length c1_3], .int .i64 t163] rfl ?_; (with_reducible refine (laws_szDevice.calls _ _ l1_0 _ _ l1_1 _ _ l1_2 _ _ l1_3 t163 t164 _ ?side1 ?side2 ?side3 ?side4 ?side5 ?side6 ?side7 ?side8 A10.out).mono ?_); (case side1 => exact cB HR1_0.out HB.out); (case side2 => exact HC1_0.out); (case side3 => exact cB HR1_1.out HB.out); (case side4 => exact HC1_1.out); (case side5 => exact cB HR1_2.out HB.out); (case side6 => exact HC1_2.out); (case side7 => exact cB HR1_3.out HB.out); (case side8 => exact HC1_3.out); rintro e w32 ⟨rfl, hb⟩; refine ⟨_, rfl, ?_⟩; have n0_ := Aside0.mk (blk_below (kA BK161.out) hb); have n1_ := Aside0.mk (blk_below (kA BK162.out) hb); have n2_ := Aside0.mk (below_step (bS HB.out) hb); clear BK161 BK162 HB; have BK161 := n0_; have BK162 := n1_; have HB := n2_; clear n0_ n1_ n2_; (try clear hb); (try clear hk); (try clear hi)))
        have n0_ := Aside0.mk (blk_drew BK161.out)
        have n1_ := Aside0.mk (blk_drew BK162.out)
        have n2_ := Aside0.mk (below_drew1 HB.out)
        clear BK161
        clear BK162
        clear HB
        have BK161 := n0_
        have BK162 := n1_
        have HB := n2_
        clear n0_ n1_ n2_
        refine start_ (n := 6) (S := fun w' => w'.cell? ⟨gb161, 0, none⟩ = some (.slice A0_0 l0_0.length c0_0) ∧ w'.cell? ⟨gb161, 1, none⟩ = some (.slice A0_1 l0_1.length c0_1) ∧ w'.cell? ⟨gb161, 2, none⟩ = some (.slice A0_2 l0_2.length c0_2) ∧ w'.cell? ⟨gb161, 3, none⟩ = some (.slice A0_3 l0_3.length c0_3) ∧ w'.cell? ⟨gb162, 0, none⟩ = some (.slice A1_0 l1_0.length c1_0) ∧ w'.cell? ⟨gb162, 1, none⟩ = some (.slice A1_1 l1_1.length c1_1) ∧ w'.cell? ⟨gb162, 2, none⟩ = some (.slice A1_2 l1_2.length c1_2) ∧ w'.cell? ⟨gb162, 3, none⟩ = some (.slice A1_3 l1_3.length c1_3)) (ds := []) #[false, false, false, false, false, false] (by kernel_rfl) rfl rfl ⟨(blk_cell BK161.out 0).trans rfl, (blk_cell BK161.out 1).trans rfl, (blk_cell BK161.out 2).trans rfl, (blk_cell BK161.out 3).trans rfl, (blk_cell BK162.out 0).trans rfl, (blk_cell BK162.out 1).trans rfl, (blk_cell BK162.out 2).trans rfl, (blk_cell BK162.out 3).trans rfl⟩ (fun hHeld => ?_)
        generalize w32.drew = w33 at BK161 BK162 HB hHeld ⊢
        refine take_ (i := 0) (N := some 20) (v := ?_) (a' := ?_) #[true, false, false, false, false, false] rfl rfl (by kernel_rfl) (fun _ _ _ h => h) (Or.inl ⟨by rfl, ?_⟩) hHeld ?_ ?_
        rotate_left
        · rintro w' ⟨s0, s1, s2, s3, s4, s5, s6, s7⟩
          go_simp
          with_reducible rfl
        rotate_left
        · simp only [Act.put, List.setIfInBounds_toArray, List.set_cons_zero, List.set_cons_succ, i64_w, i32_w]
          rfl
        refine take_ (i := 2) (N := some 22) (v := ?_) (a' := ?_) #[true, false, true, false, false, false] rfl rfl (by kernel_rfl) (fun _ _ _ h => h) (Or.inl ⟨by rfl, ?_⟩) hHeld ?_ ?_
        rotate_left
        · rintro w' ⟨s0, s1, s2, s3, s4, s5, s6, s7⟩
          go_simp
          with_reducible rfl
        rotate_left
        · simp only [Act.put, List.setIfInBounds_toArray, List.set_cons_zero, List.set_cons_succ, i64_w, i32_w]
          rfl
        refine one_ (i := 1) (N := some 21) #[true, true, true, false, false, false] rfl rfl (by kernel_rfl) (by decide) (fun K hK => ?_)
        refine goes_ Try.func69 (by kernel_rfl) rfl #[.agg #[.slice A0_0 l0_0.length c0_0, .slice A0_1 l0_1.length c0_1, .slice A0_2 l0_2.length c0_2, .slice A0_3 l0_3.length c0_3]] (by rfl) rfl rfl (by (try simp only [List.map_toArray, List.map_cons, List.map_nil]); first | done | rfl | (simp only [List.length_drop, List.length_take]; rfl)) ?_
        with_reducible refine (laws_toDevice.calls k _ _ l0_0 _ _ l0_1 _ _ l0_2 _ _ l0_3 t165 t168 t171 t174 _ ?side1 ?side2 ?side3 ?side4 ?side5 ?side6 ?side7 ?side8 A19.out).mono ?_
        (case side1 => exact cB HR0_0.out HB.out)
        (case side2 => exact HC0_0.out)
        (case side3 => exact cB HR0_1.out HB.out)
        (case side4 => exact HC0_1.out)
        (case side5 => exact cB HR0_2.out HB.out)
        (case side6 => exact HC0_2.out)
        (case side7 => exact cB HR0_3.out HB.out)
        (case side8 => exact HC0_3.out)
        rintro e w34 ⟨v166, v169, v172, v175, rfl, ho0, ho1, ho2, ho3, hb⟩
        refine ⟨_, rfl, ?_⟩
        have n0_ := Aside0.mk (Kd.R_lower ho0 (below_size (bS HB.out)))
        have n1_ := Aside0.mk (Kd.R_lower ho1 (below_size (bS HB.out)))
        have n2_ := Aside0.mk (Kd.R_lower ho2 (below_size (bS HB.out)))
        have n3_ := Aside0.mk (Kd.R_lower ho3 (below_size (bS HB.out)))
        have n4_ := Aside0.mk (blk_below (kA BK161.out) hb)
        have n5_ := Aside0.mk (blk_below (kA BK162.out) hb)
        have n6_ := Aside0.mk (below_step (bS HB.out) hb)
        clear BK161
        clear BK162
        clear HB
        have HO167 := n0_
        have HO170 := n1_
        have HO173 := n2_
        have HO176 := n3_
        have BK161 := n4_
        have BK162 := n5_
        have HB := n6_
        clear n0_ n1_ n2_ n3_ n4_ n5_ n6_
        (try clear hb)
        (try clear hb2)
        (try clear hk)
        (try clear hi)
        (try clear ho0)
        (try clear ho1)
        (try clear ho2)
        (try clear ho3)
        refine hK.out _ _ ⟨(blk_cell BK161.out 0).trans rfl, (blk_cell BK161.out 1).trans rfl, (blk_cell BK161.out 2).trans rfl, (blk_cell BK161.out 3).trans rfl, (blk_cell BK162.out 0).trans rfl, (blk_cell BK162.out 1).trans rfl, (blk_cell BK162.out 2).trans rfl, (blk_cell BK162.out 3).trans rfl⟩ (fun hHeld => ?_)
        clear hK K
        refine norm_ (a' := ?_) ?_ ?_
        rotate_left
        · show Act.put _ (some 21) _ = _
          simp only [Act.put, List.setIfInBounds_toArray, List.set_cons_zero, List.set_cons_succ, i64_w, i32_w]
          rfl
        refine one_ (i := 3) (N := some 23) #[true, true, true, true, false, false] rfl rfl (by kernel_rfl) (by decide) (fun K hK => ?_)
        refine goes_ Try.func69 (by kernel_rfl) rfl #[.agg #[.slice A1_0 l1_0.length c1_0, .slice A1_1 l1_1.length c1_1, .slice A1_2 l1_2.length c1_2, .slice A1_3 l1_3.length c1_3]] (by rfl) rfl rfl (by (try simp only [List.map_toArray, List.map_cons, List.map_nil]); first | done | rfl | (simp only [List.length_drop, List.length_take]; rfl)) ?_
        with_reducible refine (laws_toDevice.calls k _ _ l1_0 _ _ l1_1 _ _ l1_2 _ _ l1_3 t177 t180 t183 t186 _ ?side1 ?side2 ?side3 ?side4 ?side5 ?side6 ?side7 ?side8 A20.out).mono ?_
        (case side1 => exact cB HR1_0.out HB.out)
        (case side2 => exact HC1_0.out)
        (case side3 => exact cB HR1_1.out HB.out)
        (case side4 => exact HC1_1.out)
        (case side5 => exact cB HR1_2.out HB.out)
        (case side6 => exact HC1_2.out)
        (case side7 => exact cB HR1_3.out HB.out)
        (case side8 => exact HC1_3.out)
        rintro e w35 ⟨v178, v181, v184, v187, rfl, ho0, ho1, ho2, ho3, hb⟩
        refine ⟨_, rfl, ?_⟩
        have n0_ := Aside0.mk (rM (Kd.R_told (Kd.R_told (Kd.R_old (rA HO167.out) hb) (Kd.R_base ho0)) (Kd.R_base ho1)))
        have n1_ := Aside0.mk (rM (Kd.R_told (Kd.R_told (Kd.R_old (rA HO170.out) hb) (Kd.R_base ho0)) (Kd.R_base ho1)))
        have n2_ := Aside0.mk (rM (Kd.R_told (Kd.R_told (Kd.R_old (rA HO173.out) hb) (Kd.R_base ho2)) (Kd.R_base ho3)))
        have n3_ := Aside0.mk (rM (Kd.R_told (Kd.R_told (Kd.R_old (rA HO176.out) hb) (Kd.R_base ho2)) (Kd.R_base ho3)))
        have n4_ := Aside0.mk (Kd.R_lower (Kd.R_new' (Kd.R_new' ho0 (Kd.R_lt (rA HO167.out))) (Kd.R_lt (rA HO170.out))) (below_size (bS HB.out)))
        have n5_ := Aside0.mk (Kd.R_lower (Kd.R_new' (Kd.R_new' ho1 (Kd.R_lt (rA HO167.out))) (Kd.R_lt (rA HO170.out))) (below_size (bS HB.out)))
        have n6_ := Aside0.mk (Kd.R_lower (Kd.R_new' (Kd.R_new' ho2 (Kd.R_lt (rA HO173.out))) (Kd.R_lt (rA HO176.out))) (below_size (bS HB.out)))
        have n7_ := Aside0.mk (Kd.R_lower (Kd.R_new' (Kd.R_new' ho3 (Kd.R_lt (rA HO173.out))) (Kd.R_lt (rA HO176.out))) (below_size (bS HB.out)))
        have n8_ := Aside0.mk (blk_below (kA BK161.out) hb)
        have n9_ := Aside0.mk (blk_below (kA BK162.out) hb)
        have n10_ := Aside0.mk (below_step (bS HB.out) hb)
        clear HO167
        clear HO170
        clear HO173
        clear HO176
        clear BK161
        clear BK162
        clear HB
        have HO167 := n0_
        have HO170 := n1_
        have HO173 := n2_
        have HO176 := n3_
        have HO179 := n4_
        have HO182 := n5_
        have HO185 := n6_
        have HO188 := n7_
        have BK161 := n8_
        have BK162 := n9_
        have HB := n10_
        clear n0_ n1_ n2_ n3_ n4_ n5_ n6_ n7_ n8_ n9_ n10_
        (try clear hb)
        (try clear hb2)
        (try clear hk)
        (try clear hi)
        (try clear ho0)
        (try clear ho1)
        (try clear ho2)
        (try clear ho3)
        obtain ⟨Ao36, co36, eo36⟩ := Kd.R_slice HO167.out
        (first | subst eo36 | (injection eo36 with f1_ f2_ f3_; have f4_ := f1_.symm; have f5_ := f3_.symm; clear f1_ f2_ f3_; subst f4_; subst f5_))
        obtain ⟨Ao37, co37, eo37⟩ := Kd.R_slice HO170.out
        (first | subst eo37 | (injection eo37 with f1_ f2_ f3_; have f4_ := f1_.symm; have f5_ := f3_.symm; clear f1_ f2_ f3_; subst f4_; subst f5_))
        obtain ⟨Ao38, co38, eo38⟩ := Kd.R_slice HO173.out
        (first | subst eo38 | (injection eo38 with f1_ f2_ f3_; have f4_ := f1_.symm; have f5_ := f3_.symm; clear f1_ f2_ f3_; subst f4_; subst f5_))
        obtain ⟨Ao39, co39, eo39⟩ := Kd.R_slice HO176.out
        (first | subst eo39 | (injection eo39 with f1_ f2_ f3_; have f4_ := f1_.symm; have f5_ := f3_.symm; clear f1_ f2_ f3_; subst f4_; subst f5_))
        obtain ⟨Ao40, co40, eo40⟩ := Kd.R_slice HO179.out
        (first | subst eo40 | (injection eo40 with f1_ f2_ f3_; have f4_ := f1_.symm; have f5_ := f3_.symm; clear f1_ f2_ f3_; subst f4_; subst f5_))
        obtain ⟨Ao41, co41, eo41⟩ := Kd.R_slice HO182.out
        (first | subst eo41 | (injection eo41 with f1_ f2_ f3_; have f4_ := f1_.symm; have f5_ := f3_.symm; clear f1_ f2_ f3_; subst f4_; subst f5_))
        obtain ⟨Ao42, co42, eo42⟩ := Kd.R_slice HO185.out
        (first | subst eo42 | (injection eo42 with f1_ f2_ f3_; have f4_ := f1_.symm; have f5_ := f3_.symm; clear f1_ f2_ f3_; subst f4_; subst f5_))
        obtain ⟨Ao43, co43, eo43⟩ := Kd.R_slice HO188.out
        (first | subst eo43 | (injection eo43 with f1_ f2_ f3_; have f4_ := f1_.symm; have f5_ := f3_.symm; clear f1_ f2_ f3_; subst f4_; subst f5_))
        refine hK.out _ _ ⟨(blk_cell BK161.out 0).trans rfl, (blk_cell BK161.out 1).trans rfl, (blk_cell BK161.out 2).trans rfl, (blk_cell BK161.out 3).trans rfl, (blk_cell BK162.out 0).trans rfl, (blk_cell BK162.out 1).trans rfl, (blk_cell BK162.out 2).trans rfl, (blk_cell BK162.out 3).trans rfl⟩ (fun hHeld => ?_)
        clear hK K
        refine norm_ (a' := ?_) ?_ ?_
        rotate_left
        · show Act.put _ (some 23) _ = _
          simp only [Act.put, List.setIfInBounds_toArray, List.set_cons_zero, List.set_cons_succ, i64_w, i32_w]
          rfl
        refine one_ (i := 4) (N := some 24) #[true, true, true, true, true, false] rfl rfl (by kernel_rfl) (by decide) (fun K hK => ?_)
        refine goes_ Try.func72 (by kernel_rfl) rfl #[.agg #[.slice Ao36 t165.length co36, .slice Ao37 t168.length co37, .slice Ao38 t171.length co38, .slice Ao39 t174.length co39], .agg #[.slice Ao40 t177.length co40, .slice Ao41 t180.length co41, .slice Ao42 t183.length co42, .slice Ao43 t186.length co43]] (by rfl) rfl rfl (by (try simp only [List.map_toArray, List.map_cons, List.map_nil]); first | done | rfl | (simp only [List.length_drop, List.length_take]; rfl)) ?_
        with_reducible refine (spec_SameDevice.calls k _ _ t165 _ _ t168 _ _ t171 _ _ t174 _ _ t177 _ _ t180 _ _ t183 _ _ t186 t189 _ ?side1 ?side2 ?side3 ?side4 ?side5 ?side6 ?side7 ?side8 ?side9 ?side10 ?side11 ?side12 ?side13 ?side14 ?side15 ?side16 A21.out).mono ?_
        (case side1 => repeat (first | exact (Kd.R_reads' HO167.out).2.2 | (with_reducible refine Kd.C_alloc ?_ _) | (with_reducible refine Kd.C_drewN ?_ _) | (with_reducible refine Kd.C_drew ?_)))
        (case side2 => exact (Kd.R_reads' HO167.out).2.1)
        (case side3 => repeat (first | exact (Kd.R_reads' HO170.out).2.2 | (with_reducible refine Kd.C_alloc ?_ _) | (with_reducible refine Kd.C_drewN ?_ _) | (with_reducible refine Kd.C_drew ?_)))
        (case side4 => exact (Kd.R_reads' HO170.out).2.1)
        (case side5 => repeat (first | exact (Kd.R_reads' HO173.out).2.2 | (with_reducible refine Kd.C_alloc ?_ _) | (with_reducible refine Kd.C_drewN ?_ _) | (with_reducible refine Kd.C_drew ?_)))
        (case side6 => exact (Kd.R_reads' HO173.out).2.1)
        (case side7 => repeat (first | exact (Kd.R_reads' HO176.out).2.2 | (with_reducible refine Kd.C_alloc ?_ _) | (with_reducible refine Kd.C_drewN ?_ _) | (with_reducible refine Kd.C_drew ?_)))
        (case side8 => exact (Kd.R_reads' HO176.out).2.1)
        (case side9 => repeat (first | exact (Kd.R_reads' HO179.out).2.2 | (with_reducible refine Kd.C_alloc ?_ _) | (with_reducible refine Kd.C_drewN ?_ _) | (with_reducible refine Kd.C_drew ?_)))
        (case side10 => exact (Kd.R_reads' HO179.out).2.1)
        (case side11 => repeat (first | exact (Kd.R_reads' HO182.out).2.2 | (with_reducible refine Kd.C_alloc ?_ _) | (with_reducible refine Kd.C_drewN ?_ _) | (with_reducible refine Kd.C_drew ?_)))
        (case side12 => exact (Kd.R_reads' HO182.out).2.1)
        (case side13 => repeat (first | exact (Kd.R_reads' HO185.out).2.2 | (with_reducible refine Kd.C_alloc ?_ _) | (with_reducible refine Kd.C_drewN ?_ _) | (with_reducible refine Kd.C_drew ?_)))
        (case side14 => exact (Kd.R_reads' HO185.out).2.1)
        (case side15 => repeat (first | exact (Kd.R_reads' HO188.out).2.2 | (with_reducible refine Kd.C_alloc ?_ _) | (with_reducible refine Kd.C_drewN ?_ _) | (with_reducible refine Kd.C_drew ?_)))
        (case side16 => exact (Kd.R_reads' HO188.out).2.1)
        rintro e w44 ⟨rfl, hb⟩
        refine ⟨_, rfl, ?_⟩
        have n0_ := Aside0.mk (Kd.R_below (rA HO167.out) hb)
        have n1_ := Aside0.mk (Kd.R_below (rA HO170.out) hb)
        have n2_ := Aside0.mk (Kd.R_below (rA HO173.out) hb)
        have n3_ := Aside0.mk (Kd.R_below (rA HO176.out) hb)
        have n4_ := Aside0.mk (Kd.R_below (rA HO179.out) hb)
        have n5_ := Aside0.mk (Kd.R_below (rA HO182.out) hb)
        have n6_ := Aside0.mk (Kd.R_below (rA HO185.out) hb)
        have n7_ := Aside0.mk (Kd.R_below (rA HO188.out) hb)
        have n8_ := Aside0.mk (blk_below (kA BK161.out) hb)
        have n9_ := Aside0.mk (blk_below (kA BK162.out) hb)
        have n10_ := Aside0.mk (below_step (bS HB.out) hb)
        clear HO167
        clear HO170
        clear HO173
        clear HO176
        clear HO179
        clear HO182
        clear HO185
        clear HO188
        clear BK161
        clear BK162
        clear HB
        have HO167 := n0_
        have HO170 := n1_
        have HO173 := n2_
        have HO176 := n3_
        have HO179 := n4_
        have HO182 := n5_
        have HO185 := n6_
        have HO188 := n7_
        have BK161 := n8_
        have BK162 := n9_
        have HB := n10_
        clear n0_ n1_ n2_ n3_ n4_ n5_ n6_ n7_ n8_ n9_ n10_
        (try clear hb)
        (try clear hb2)
        (try clear hk)
        (try clear hi)
        refine hK.out _ _ ⟨(blk_cell BK161.out 0).trans rfl, (blk_cell BK161.out 1).trans rfl, (blk_cell BK161.out 2).trans rfl, (blk_cell BK161.out 3).trans rfl, (blk_cell BK162.out 0).trans rfl, (blk_cell BK162.out 1).trans rfl, (blk_cell BK162.out 2).trans rfl, (blk_cell BK162.out 3).trans rfl⟩ (fun hHeld => ?_)
        clear hK K
        refine norm_ (a' := ?_) ?_ ?_
        rotate_left
        · show Act.put _ (some 24) _ = _
          simp only [Act.put, List.setIfInBounds_toArray, List.set_cons_zero, List.set_cons_succ, i64_w, i32_w]
          rfl
        refine pure_ (i := 5) (N := some 6) (v := ?_) (a' := ?_) #[true, true, true, true, true, true] rfl rfl (by kernel_rfl) (fun _ _ _ h => h) (Or.inl ⟨by rfl, ?_⟩) ?_ ?_
        rotate_left
        · intro w'
          go_simp
          with_reducible rfl
        rotate_left
        · simp only [Act.put, List.setIfInBounds_toArray, List.set_cons_zero, List.set_cons_succ, i64_w, i32_w]
          rfl
        refine done_ (by kernel_rfl) ?_
        obtain ⟨hcz45_0, hfz45_0, hcz45_1, hfz45_1, hcz45_2, hfz45_2, hcz45_3, hfz45_3⟩ := bk4 BK161.out
        try go_wp2_with (first | ((with_reducible refine gate_callee (f := 69) rfl ?_); refine gL (some 26) rfl rfl Try.func69 (by kernel_rfl) rfl #[.agg #[.slice A0_0 l0_0.length c0_0, .slice A0_1 l0_1.length c0_1, .slice A0_2 l0_2.length c0_2, .slice A0_3 l0_3.length c0_3]] rfl ?_; (with_reducible refine (laws_toDevice.calls k _ _ l0_0 _ _ l0_1 _ _ l0_2 _ _ l0_3 t190 t193 t196 t199 _ ?side1 ?side2 ?side3 ?side4 ?side5 ?side6 ?side7 ?side8 A22.out).mono ?_); (case side1 => exact cB HR0_0.out HB.out); (case side2 => exact HC0_0.out); (case side3 => exact cB HR0_1.out HB.out); (case side4 => exact HC0_1.out); (case side5 => exact cB HR0_2.out HB.out); (case side6 => exact HC0_2.out); (case side7 => exact cB HR0_3.out HB.out); (case side8 => exact HC0_3.out); rintro e w46 ⟨v191, v194, v197, v200, rfl, ho0, ho1, ho2, ho3, hb⟩; refine ⟨_, rfl, ?_⟩; have n0_ := Aside0.mk (rM (Kd.R_told (Kd.R_told (Kd.R_old (rA HO167.out) hb) (Kd.R_base ho0)) (Kd.R_base ho1))); have n1_ := Aside0.mk (rM (Kd.R_told (Kd.R_told (Kd.R_old (rA HO170.out) hb) (Kd.R_base ho0)) (Kd.R_base ho1))); have n2_ := Aside0.mk (rM (Kd.R_told (Kd.R_told (Kd.R_old (rA HO173.out) hb) (Kd.R_base ho2)) (Kd.R_base ho3))); have n3_ := Aside0.mk (rM (Kd.R_told (Kd.R_told (Kd.R_old (rA HO176.out) hb) (Kd.R_base ho2)) (Kd.R_base ho3))); have n4_ := Aside0.mk (rM (Kd.R_told (Kd.R_told (Kd.R_old (rA HO179.out) hb) (Kd.R_base ho0)) (Kd.R_base ho1))); have n5_ := Aside0.mk (rM (Kd.R_told (Kd.R_told (Kd.R_old (rA HO182.out) hb) (Kd.R_base ho0)) (Kd.R_base ho1))); have n6_ := Aside0.mk (rM (Kd.R_told (Kd.R_told (Kd.R_old (rA HO185.out) hb) (Kd.R_base ho2)) (Kd.R_base ho3))); have n7_ := Aside0.mk (rM (Kd.R_told (Kd.R_told (Kd.R_old (rA HO188.out) hb) (Kd.R_base ho2)) (Kd.R_base ho3))); have n8_ := Aside0.mk (Kd.R_lower (Kd.R_new' (Kd.R_new' (Kd.R_new' (Kd.R_new' ho0 (Kd.R_lt (rA HO167.out))) (Kd.R_lt (rA HO170.out))) (Kd.R_lt (rA HO179.out))) (Kd.R_lt (rA HO182.out))) (below_size (bS HB.out))); have n9_ := Aside0.mk (Kd.R_lower (Kd.R_new' (Kd.R_new' (Kd.R_new' (Kd.R_new' ho1 (Kd.R_lt (rA HO167.out))) (Kd.R_lt (rA HO170.out))) (Kd.R_lt (rA HO179.out))) (Kd.R_lt (rA HO182.out))) (below_size (bS HB.out))); have n10_ := Aside0.mk (Kd.R_lower (Kd.R_new' (Kd.R_new' (Kd.R_new' (Kd.R_new' ho2 (Kd.R_lt (rA HO173.out))) (Kd.R_lt (rA HO176.out))) (Kd.R_lt (rA HO185.out))) (Kd.R_lt (rA HO188.out))) (below_size (bS HB.out))); have n11_ := Aside0.mk (Kd.R_lower (Kd.R_new' (Kd.R_new' (Kd.R_new' (Kd.R_new' ho3 (Kd.R_lt (rA HO173.out))) (Kd.R_lt (rA HO176.out))) (Kd.R_lt (rA HO185.out))) (Kd.R_lt (rA HO188.out))) (below_size (bS HB.out))); have n12_ := Aside0.mk (blk_below (kA BK161.out) hb); have n13_ := Aside0.mk (blk_below (kA BK162.out) hb); have n14_ := Aside0.mk (below_step (bS HB.out) hb); clear HO167 HO170 HO173 HO176 HO179 HO182 HO185 HO188 BK161 BK162 HB; have HO167 := n0_; have HO170 := n1_; have HO173 := n2_; have HO176 := n3_; have HO179 := n4_; have HO182 := n5_; have HO185 := n6_; have HO188 := n7_; have HO192 := n8_; have HO195 := n9_; have HO198 := n10_; have HO201 := n11_; have BK161 := n12_; have BK162 := n13_; have HB := n14_; clear n0_ n1_ n2_ n3_ n4_ n5_ n6_ n7_ n8_ n9_ n10_ n11_ n12_ n13_ n14_; (try clear hb); (try clear hk); (try clear hi); (try clear ho0); (try clear ho1); (try clear ho2); (try clear ho3)) | ((with_reducible refine gate_dst (N := 7) rfl ?_); refine box_event ?hg (N := 7) ?hd (cs := #[.slice none 0 0, .slice none 0 0, .slice none 0 0, .slice none 0 0]) (t := 72) ?hr ?_; (case hd => rfl); (case hg => rfl); (case hr => first | (go_simp; done) | (go_simp; rfl)); intro gb202 hg w47 hbox hb; have n0_ := Aside0.mk (Kd.R_below (rA HO167.out) hb); have n1_ := Aside0.mk (Kd.R_below (rA HO170.out) hb); have n2_ := Aside0.mk (Kd.R_below (rA HO173.out) hb); have n3_ := Aside0.mk (Kd.R_below (rA HO176.out) hb); have n4_ := Aside0.mk (Kd.R_below (rA HO179.out) hb); have n5_ := Aside0.mk (Kd.R_below (rA HO182.out) hb); have n6_ := Aside0.mk (Kd.R_below (rA HO185.out) hb); have n7_ := Aside0.mk (Kd.R_below (rA HO188.out) hb); have n8_ := Aside0.mk (Kd.R_below (rA HO192.out) hb); have n9_ := Aside0.mk (Kd.R_below (rA HO195.out) hb); have n10_ := Aside0.mk (Kd.R_below (rA HO198.out) hb); have n11_ := Aside0.mk (Kd.R_below (rA HO201.out) hb); have n12_ := Aside0.mk (blk_below (kA BK161.out) hb); have n13_ := Aside0.mk (blk_below (kA BK162.out) hb); have n14_ := Aside0.mk (below_step (bS HB.out) hb); have n15_ := Aside0.mk (hbox); have n16_ := Aside0.mk ((by rw [hg]; exact (below_size (bS HB.out)) : w.heap.size ≤ gb202)); have n17_ := n16_; have n18_ := Aside0.mk ((by rw [hg]; exact Nat.ne_of_lt (blk_lt (g := gb161) (o := .cells #[.slice A0_0 l0_0.length c0_0, .slice A0_1 l0_1.length c0_1, .slice A0_2 l0_2.length c0_2, .slice A0_3 l0_3.length c0_3] 81 (0, 0)) (kA BK161.out)) : gb161 ≠ gb202)); have n19_ := Aside0.mk ((by rw [hg]; exact Nat.ne_of_gt (blk_lt (g := gb161) (o := .cells #[.slice A0_0 l0_0.length c0_0, .slice A0_1 l0_1.length c0_1, .slice A0_2 l0_2.length c0_2, .slice A0_3 l0_3.length c0_3] 81 (0, 0)) (kA BK161.out)) : gb202 ≠ gb161)); have n20_ := Aside0.mk ((by rw [hg]; exact Nat.ne_of_lt (blk_lt (g := gb162) (o := .cells #[.slice A1_0 l1_0.length c1_0, .slice A1_1 l1_1.length c1_1, .slice A1_2 l1_2.length c1_2, .slice A1_3 l1_3.length c1_3] 81 (0, 0)) (kA BK162.out)) : gb162 ≠ gb202)); have n21_ := Aside0.mk ((by rw [hg]; exact Nat.ne_of_gt (blk_lt (g := gb162) (o := .cells #[.slice A1_0 l1_0.length c1_0, .slice A1_1 l1_1.length c1_1, .slice A1_2 l1_2.length c1_2, .slice A1_3 l1_3.length c1_3] 81 (0, 0)) (kA BK162.out)) : gb202 ≠ gb162)); clear HO167 HO170 HO173 HO176 HO179 HO182 HO185 HO188 HO192 HO195 HO198 HO201 BK161 BK162 HB; have HO167 := n0_; have HO170 := n1_; have HO173 := n2_; have HO176 := n3_; have HO179 := n4_; have HO182 := n5_; have HO185 := n6_; have HO188 := n7_; have HO192 := n8_; have HO195 := n9_; have HO198 := n10_; have HO201 := n11_; have BK161 := n12_; have BK162 := n13_; have HB := n14_; have BK202 := n15_; have GW202 := n16_; have GE202 := n17_; have NB161_202 := n18_; have NB202_161 := n19_; have NB162_202 := n20_; have NB202_162 := n21_; clear n0_ n1_ n2_ n3_ n4_ n5_ n6_ n7_ n8_ n9_ n10_ n11_ n12_ n13_ n14_ n15_ n16_ n17_ n18_ n19_ n20_ n21_; clear hb hbox hg; obtain ⟨Ao48, co48, eo48⟩ := Kd.R_slice HO192.out; subst eo48; have hnb49 := NB202_161.out; have hnc49 := NB161_202.out; have hnb50 := NB202_162.out; have hnc50 := NB162_202.out; obtain ⟨hcz51_0, hfz51_0, hcz51_1, hfz51_1, hcz51_2, hfz51_2, hcz51_3, hfz51_3⟩ := bk4 BK202.out; obtain ⟨Ao52, co52, eo52⟩ := Kd.R_slice HO195.out; subst eo52; obtain ⟨Ao53, co53, eo53⟩ := Kd.R_slice HO198.out; subst eo53; obtain ⟨Ao54, co54, eo54⟩ := Kd.R_slice HO201.out; subst eo54; obtain ⟨hcz55_0, hfz55_0, hcz55_1, hfz55_1, hcz55_2, hfz55_2, hcz55_3, hfz55_3⟩ := bk4 BK162.out) | ((with_reducible refine gate_callee (f := 69) rfl ?_); refine gL (some 28) rfl rfl Try.func69 (by kernel_rfl) rfl #[.agg #[.slice A1_0 l1_0.length c1_0, .slice A1_1 l1_1.length c1_1, .slice A1_2 l1_2.length c1_2, .slice A1_3 l1_3.length c1_3]] rfl ?_; (with_reducible refine (laws_toDevice.calls k _ _ l1_0 _ _ l1_1 _ _ l1_2 _ _ l1_3 t203 t206 t209 t212 _ ?side1 ?side2 ?side3 ?side4 ?side5 ?side6 ?side7 ?side8 A23.out).mono ?_); (case side1 => exact Kd.C_below HR1_0.out (bS HB.out)); (case side2 => exact HC1_0.out); (case side3 => exact Kd.C_below HR1_1.out (bS HB.out)); (case side4 => exact HC1_1.out); (case side5 => exact Kd.C_below HR1_2.out (bS HB.out)); (case side6 => exact HC1_2.out); (case side7 => exact Kd.C_below HR1_3.out (bS HB.out)); (case side8 => exact HC1_3.out); rintro e w56 ⟨v204, v207, v210, v213, rfl, ho0, ho1, ho2, ho3, hb⟩; refine ⟨_, rfl, ?_⟩; have n0_ := Aside0.mk (rM (Kd.R_told (Kd.R_told (Kd.R_old (rF4 HO167.out BK202.out) hb) (Kd.R_base ho0)) (Kd.R_base ho1))); have n1_ := Aside0.mk (rM (Kd.R_told (Kd.R_told (Kd.R_old (rF4 HO170.out BK202.out) hb) (Kd.R_base ho0)) (Kd.R_base ho1))); have n2_ := Aside0.mk (rM (Kd.R_told (Kd.R_told (Kd.R_old (rF4 HO173.out BK202.out) hb) (Kd.R_base ho2)) (Kd.R_base ho3))); have n3_ := Aside0.mk (rM (Kd.R_told (Kd.R_told (Kd.R_old (rF4 HO176.out BK202.out) hb) (Kd.R_base ho2)) (Kd.R_base ho3))); have n4_ := Aside0.mk (rM (Kd.R_told (Kd.R_told (Kd.R_old (rF4 HO179.out BK202.out) hb) (Kd.R_base ho0)) (Kd.R_base ho1))); have n5_ := Aside0.mk (rM (Kd.R_told (Kd.R_told (Kd.R_old (rF4 HO182.out BK202.out) hb) (Kd.R_base ho0)) (Kd.R_base ho1))); have n6_ := Aside0.mk (rM (Kd.R_told (Kd.R_told (Kd.R_old (rF4 HO185.out BK202.out) hb) (Kd.R_base ho2)) (Kd.R_base ho3))); have n7_ := Aside0.mk (rM (Kd.R_told (Kd.R_told (Kd.R_old (rF4 HO188.out BK202.out) hb) (Kd.R_base ho2)) (Kd.R_base ho3))); have n8_ := Aside0.mk (rM (Kd.R_told (Kd.R_told (Kd.R_old (rF4 HO192.out BK202.out) hb) (Kd.R_base ho0)) (Kd.R_base ho1))); have n9_ := Aside0.mk (rM (Kd.R_told (Kd.R_told (Kd.R_old (rF4 HO195.out BK202.out) hb) (Kd.R_base ho0)) (Kd.R_base ho1))); have n10_ := Aside0.mk (rM (Kd.R_told (Kd.R_told (Kd.R_old (rF4 HO198.out BK202.out) hb) (Kd.R_base ho2)) (Kd.R_base ho3))); have n11_ := Aside0.mk (rM (Kd.R_told (Kd.R_told (Kd.R_old (rF4 HO201.out BK202.out) hb) (Kd.R_base ho2)) (Kd.R_base ho3))); have n12_ := Aside0.mk (Kd.R_lower (Kd.R_new' (Kd.R_new' (Kd.R_new' (Kd.R_new' (Kd.R_new' (Kd.R_new' ho0 (Kd.R_lt (rF4 HO167.out BK202.out))) (Kd.R_lt (rF4 HO170.out BK202.out))) (Kd.R_lt (rF4 HO179.out BK202.out))) (Kd.R_lt (rF4 HO182.out BK202.out))) (Kd.R_lt (rF4 HO192.out BK202.out))) (Kd.R_lt (rF4 HO195.out BK202.out))) (below_size (bS HB.out))); have n13_ := Aside0.mk (Kd.R_lower (Kd.R_new' (Kd.R_new' (Kd.R_new' (Kd.R_new' (Kd.R_new' (Kd.R_new' ho1 (Kd.R_lt (rF4 HO167.out BK202.out))) (Kd.R_lt (rF4 HO170.out BK202.out))) (Kd.R_lt (rF4 HO179.out BK202.out))) (Kd.R_lt (rF4 HO182.out BK202.out))) (Kd.R_lt (rF4 HO192.out BK202.out))) (Kd.R_lt (rF4 HO195.out BK202.out))) (below_size (bS HB.out))); have n14_ := Aside0.mk (Kd.R_lower (Kd.R_new' (Kd.R_new' (Kd.R_new' (Kd.R_new' (Kd.R_new' (Kd.R_new' ho2 (Kd.R_lt (rF4 HO173.out BK202.out))) (Kd.R_lt (rF4 HO176.out BK202.out))) (Kd.R_lt (rF4 HO185.out BK202.out))) (Kd.R_lt (rF4 HO188.out BK202.out))) (Kd.R_lt (rF4 HO198.out BK202.out))) (Kd.R_lt (rF4 HO201.out BK202.out))) (below_size (bS HB.out))); have n15_ := Aside0.mk (Kd.R_lower (Kd.R_new' (Kd.R_new' (Kd.R_new' (Kd.R_new' (Kd.R_new' (Kd.R_new' ho3 (Kd.R_lt (rF4 HO173.out BK202.out))) (Kd.R_lt (rF4 HO176.out BK202.out))) (Kd.R_lt (rF4 HO185.out BK202.out))) (Kd.R_lt (rF4 HO188.out BK202.out))) (Kd.R_lt (rF4 HO198.out BK202.out))) (Kd.R_lt (rF4 HO201.out BK202.out))) (below_size (bS HB.out))); have n16_ := Aside0.mk (blk_below (kF4 BK161.out NB161_202.out) hb); have n17_ := Aside0.mk (blk_below (kF4 BK162.out NB162_202.out) hb); have n18_ := Aside0.mk (blk_below (kP4 BK202.out) hb); have n19_ := Aside0.mk (below_step (bS HB.out) hb); clear HO167 HO170 HO173 HO176 HO179 HO182 HO185 HO188 HO192 HO195 HO198 HO201 BK161 BK162 BK202 HB; have HO167 := n0_; have HO170 := n1_; have HO173 := n2_; have HO176 := n3_; have HO179 := n4_; have HO182 := n5_; have HO185 := n6_; have HO188 := n7_; have HO192 := n8_; have HO195 := n9_; have HO198 := n10_; have HO201 := n11_; have HO205 := n12_; have HO208 := n13_; have HO211 := n14_; have HO214 := n15_; have BK161 := n16_; have BK162 := n17_; have BK202 := n18_; have HB := n19_; clear n0_ n1_ n2_ n3_ n4_ n5_ n6_ n7_ n8_ n9_ n10_ n11_ n12_ n13_ n14_ n15_ n16_ n17_ n18_ n19_; (try clear hb); (try clear hk); (try clear hi); (try clear ho0); (try clear ho1); (try clear ho2); (try clear ho3)) | ((with_reducible refine gate_dst (N := 8) rfl ?_); refine box_event ?hg (N := 8) ?hd (cs := #[.slice none 0 0, .slice none 0 0, .slice none 0 0, .slice none 0 0]) (t := 72) ?hr ?_; (case hd => rfl); (case hg => rfl); (case hr => first | (go_simp; done) | (go_simp; rfl)); intro gb215 hg w57 hbox hb; have n0_ := Aside0.mk (Kd.R_below (rA HO167.out) hb); have n1_ := Aside0.mk (Kd.R_below (rA HO170.out) hb); have n2_ := Aside0.mk (Kd.R_below (rA HO173.out) hb); have n3_ := Aside0.mk (Kd.R_below (rA HO176.out) hb); have n4_ := Aside0.mk (Kd.R_below (rA HO179.out) hb); have n5_ := Aside0.mk (Kd.R_below (rA HO182.out) hb); have n6_ := Aside0.mk (Kd.R_below (rA HO185.out) hb); have n7_ := Aside0.mk (Kd.R_below (rA HO188.out) hb); have n8_ := Aside0.mk (Kd.R_below (rA HO192.out) hb); have n9_ := Aside0.mk (Kd.R_below (rA HO195.out) hb); have n10_ := Aside0.mk (Kd.R_below (rA HO198.out) hb); have n11_ := Aside0.mk (Kd.R_below (rA HO201.out) hb); have n12_ := Aside0.mk (Kd.R_below (rA HO205.out) hb); have n13_ := Aside0.mk (Kd.R_below (rA HO208.out) hb); have n14_ := Aside0.mk (Kd.R_below (rA HO211.out) hb); have n15_ := Aside0.mk (Kd.R_below (rA HO214.out) hb); have n16_ := Aside0.mk (blk_below (kA BK161.out) hb); have n17_ := Aside0.mk (blk_below (kA BK162.out) hb); have n18_ := Aside0.mk (blk_below (kA BK202.out) hb); have n19_ := Aside0.mk (below_step (bS HB.out) hb); have n20_ := Aside0.mk (hbox); have n21_ := Aside0.mk ((by rw [hg]; exact (below_size (bS HB.out)) : w.heap.size ≤ gb215)); have n22_ := n21_; have n23_ := Aside0.mk ((by rw [hg]; exact Nat.ne_of_lt (blk_lt (g := gb161) (o := .cells #[.slice A0_0 l0_0.length c0_0, .slice A0_1 l0_1.length c0_1, .slice A0_2 l0_2.length c0_2, .slice A0_3 l0_3.length c0_3] 81 (0, 0)) (kA BK161.out)) : gb161 ≠ gb215)); have n24_ := Aside0.mk ((by rw [hg]; exact Nat.ne_of_gt (blk_lt (g := gb161) (o := .cells #[.slice A0_0 l0_0.length c0_0, .slice A0_1 l0_1.length c0_1, .slice A0_2 l0_2.length c0_2, .slice A0_3 l0_3.length c0_3] 81 (0, 0)) (kA BK161.out)) : gb215 ≠ gb161)); have n25_ := Aside0.mk ((by rw [hg]; exact Nat.ne_of_lt (blk_lt (g := gb162) (o := .cells #[.slice A1_0 l1_0.length c1_0, .slice A1_1 l1_1.length c1_1, .slice A1_2 l1_2.length c1_2, .slice A1_3 l1_3.length c1_3] 81 (0, 0)) (kA BK162.out)) : gb162 ≠ gb215)); have n26_ := Aside0.mk ((by rw [hg]; exact Nat.ne_of_gt (blk_lt (g := gb162) (o := .cells #[.slice A1_0 l1_0.length c1_0, .slice A1_1 l1_1.length c1_1, .slice A1_2 l1_2.length c1_2, .slice A1_3 l1_3.length c1_3] 81 (0, 0)) (kA BK162.out)) : gb215 ≠ gb162)); have n27_ := Aside0.mk ((by rw [hg]; exact Nat.ne_of_lt (blk_lt (g := gb202) (o := .cells #[.slice Ao48 t190.length co48, .slice Ao52 t193.length co52, .slice Ao53 t196.length co53, .slice Ao54 t199.length co54] 72 (0, 0)) (kA BK202.out)) : gb202 ≠ gb215)); have n28_ := Aside0.mk ((by rw [hg]; exact Nat.ne_of_gt (blk_lt (g := gb202) (o := .cells #[.slice Ao48 t190.length co48, .slice Ao52 t193.length co52, .slice Ao53 t196.length co53, .slice Ao54 t199.length co54] 72 (0, 0)) (kA BK202.out)) : gb215 ≠ gb202)); clear HO167 HO170 HO173 HO176 HO179 HO182 HO185 HO188 HO192 HO195 HO198 HO201 HO205 HO208 HO211 HO214 BK161 BK162 BK202 HB; have HO167 := n0_; have HO170 := n1_; have HO173 := n2_; have HO176 := n3_; have HO179 := n4_; have HO182 := n5_; have HO185 := n6_; have HO188 := n7_; have HO192 := n8_; have HO195 := n9_; have HO198 := n10_; have HO201 := n11_; have HO205 := n12_; have HO208 := n13_; have HO211 := n14_; have HO214 := n15_; have BK161 := n16_; have BK162 := n17_; have BK202 := n18_; have HB := n19_; have BK215 := n20_; have GW215 := n21_; have GE215 := n22_; have NB161_215 := n23_; have NB215_161 := n24_; have NB162_215 := n25_; have NB215_162 := n26_; have NB202_215 := n27_; have NB215_202 := n28_; clear n0_ n1_ n2_ n3_ n4_ n5_ n6_ n7_ n8_ n9_ n10_ n11_ n12_ n13_ n14_ n15_ n16_ n17_ n18_ n19_ n20_ n21_ n22_ n23_ n24_ n25_ n26_ n27_ n28_; clear hb hbox hg; obtain ⟨Ao58, co58, eo58⟩ := Kd.R_slice HO205.out; subst eo58; have hnb59 := NB215_161.out; have hnc59 := NB161_215.out; have hnb60 := NB215_162.out; have hnc60 := NB162_215.out; have hnb61 := NB215_202.out; have hnc61 := NB202_215.out; obtain ⟨hcz62_0, hfz62_0, hcz62_1, hfz62_1, hcz62_2, hfz62_2, hcz62_3, hfz62_3⟩ := bk4 BK215.out; obtain ⟨Ao63, co63, eo63⟩ := Kd.R_slice HO208.out; subst eo63; obtain ⟨Ao64, co64, eo64⟩ := Kd.R_slice HO211.out; subst eo64; obtain ⟨Ao65, co65, eo65⟩ := Kd.R_slice HO214.out; subst eo65; obtain ⟨hcz66_0, hfz66_0, hcz66_1, hfz66_1, hcz66_2, hfz66_2, hcz66_3, hfz66_3⟩ := bk4 BK202.out) | ((with_reducible refine gate_callee (f := 73) rfl ?_); refine gL (some 31) rfl rfl Try.func73 (by kernel_rfl) rfl #[.agg #[.slice Ao48 t190.length co48, .slice Ao52 t193.length co52, .slice Ao53 t196.length co53, .slice Ao54 t199.length co54], .agg #[.slice Ao58 t203.length co58, .slice Ao63 t206.length co63, .slice Ao64 t209.length co64, .slice Ao65 t212.length co65]] rfl ?_; (with_reducible refine (impl_SameDevice.calls k _ _ t190 _ _ t193 _ _ t196 _ _ t199 _ _ t203 _ _ t206 _ _ t209 _ _ t212 t216 _ ?side1 ?side2 ?side3 ?side4 ?side5 ?side6 ?side7 ?side8 ?side9 ?side10 ?side11 ?side12 ?side13 ?side14 ?side15 ?side16 A24.out).mono ?_); (case side1 => exact (Kd.R_reads' (rF4 HO192.out BK215.out)).2.2); (case side2 => exact (Kd.R_reads' HO192.out).2.1); (case side3 => exact (Kd.R_reads' (rF4 HO195.out BK215.out)).2.2); (case side4 => exact (Kd.R_reads' HO195.out).2.1); (case side5 => exact (Kd.R_reads' (rF4 HO198.out BK215.out)).2.2); (case side6 => exact (Kd.R_reads' HO198.out).2.1); (case side7 => exact (Kd.R_reads' (rF4 HO201.out BK215.out)).2.2); (case side8 => exact (Kd.R_reads' HO201.out).2.1); (case side9 => exact (Kd.R_reads' (rF4 HO205.out BK215.out)).2.2); (case side10 => exact (Kd.R_reads' HO205.out).2.1); (case side11 => exact (Kd.R_reads' (rF4 HO208.out BK215.out)).2.2); (case side12 => exact (Kd.R_reads' HO208.out).2.1); (case side13 => exact (Kd.R_reads' (rF4 HO211.out BK215.out)).2.2); (case side14 => exact (Kd.R_reads' HO211.out).2.1); (case side15 => exact (Kd.R_reads' (rF4 HO214.out BK215.out)).2.2); (case side16 => exact (Kd.R_reads' HO214.out).2.1); rintro e w67 ⟨rfl, hb⟩; refine ⟨_, rfl, ?_⟩; have n0_ := Aside0.mk (Kd.R_below (rF4 HO167.out BK215.out) hb); have n1_ := Aside0.mk (Kd.R_below (rF4 HO170.out BK215.out) hb); have n2_ := Aside0.mk (Kd.R_below (rF4 HO173.out BK215.out) hb); have n3_ := Aside0.mk (Kd.R_below (rF4 HO176.out BK215.out) hb); have n4_ := Aside0.mk (Kd.R_below (rF4 HO179.out BK215.out) hb); have n5_ := Aside0.mk (Kd.R_below (rF4 HO182.out BK215.out) hb); have n6_ := Aside0.mk (Kd.R_below (rF4 HO185.out BK215.out) hb); have n7_ := Aside0.mk (Kd.R_below (rF4 HO188.out BK215.out) hb); have n8_ := Aside0.mk (Kd.R_below (rF4 HO192.out BK215.out) hb); have n9_ := Aside0.mk (Kd.R_below (rF4 HO195.out BK215.out) hb); have n10_ := Aside0.mk (Kd.R_below (rF4 HO198.out BK215.out) hb); have n11_ := Aside0.mk (Kd.R_below (rF4 HO201.out BK215.out) hb); have n12_ := Aside0.mk (Kd.R_below (rF4 HO205.out BK215.out) hb); have n13_ := Aside0.mk (Kd.R_below (rF4 HO208.out BK215.out) hb); have n14_ := Aside0.mk (Kd.R_below (rF4 HO211.out BK215.out) hb); have n15_ := Aside0.mk (Kd.R_below (rF4 HO214.out BK215.out) hb); have n16_ := Aside0.mk (blk_below (kF4 BK161.out NB161_215.out) hb); have n17_ := Aside0.mk (blk_below (kF4 BK162.out NB162_215.out) hb); have n18_ := Aside0.mk (blk_below (kF4 BK202.out NB202_215.out) hb); have n19_ := Aside0.mk (blk_below (kP4 BK215.out) hb); have n20_ := Aside0.mk (below_step (bS HB.out) hb); clear HO167 HO170 HO173 HO176 HO179 HO182 HO185 HO188 HO192 HO195 HO198 HO201 HO205 HO208 HO211 HO214 BK161 BK162 BK202 BK215 HB; have HO167 := n0_; have HO170 := n1_; have HO173 := n2_; have HO176 := n3_; have HO179 := n4_; have HO182 := n5_; have HO185 := n6_; have HO188 := n7_; have HO192 := n8_; have HO195 := n9_; have HO198 := n10_; have HO201 := n11_; have HO205 := n12_; have HO208 := n13_; have HO211 := n14_; have HO214 := n15_; have BK161 := n16_; have BK162 := n17_; have BK202 := n18_; have BK215 := n19_; have HB := n20_; clear n0_ n1_ n2_ n3_ n4_ n5_ n6_ n7_ n8_ n9_ n10_ n11_ n12_ n13_ n14_ n15_ n16_ n17_ n18_ n19_ n20_; (try clear hb); (try clear hk); (try clear hi)))
        go_ret
        exact ⟨by first | rfl | (simp [errW_none, errW_some] <;> rfl) | (simp [*, errW_none, errW_some] <;> rfl), by repeat (first | (with_reducible first | exact HB.out | apply below_alloc | apply pw_below_drewN | apply below_drew1 | refine below_set ?_ GE161.out | refine below_set ?_ GE162.out | refine below_set ?_ GE202.out | refine below_set ?_ GE215.out) | exact HB.out)⟩
      · rw [if_neg c25] at H
        have c25b0 : (t216 != t189) = false := by simpa using c25
        (try (have c25b1 : decide (t216 = t189) = true := by simpa using c25))
        (try (have c25b2 : (t216 == t189) = true := by simpa using c25))
        clear c25
        replace H := Option.bind_eq_some_iff.mp H
        obtain ⟨⟨t217, t220, t223, t226⟩, A680, H⟩ := H
        replace H : ((laws_eqDevice.f k t190 t193 t196 t199 t217 t220 t223 t226).bind fun t229 => (if t229 = true then ((laws_toDevice.f k l1_0 l1_1 l1_2 l1_3).bind fun bt230 => ((laws_eqDevice.f k t203 t206 t209 t212 bt230.1 bt230.2.1 bt230.2.2.1 bt230.2.2.2).bind fun t242 => (if t242 = true then (some true) else (some false)))) else (some false))) = some r := H
        have A68 := Aside0.mk A680
        clear A680
        replace H := Option.bind_eq_some_iff.mp H
        obtain ⟨t229, A690, H⟩ := H
        replace H : (if t229 = true then ((laws_toDevice.f k l1_0 l1_1 l1_2 l1_3).bind fun bt230 => ((laws_eqDevice.f k t203 t206 t209 t212 bt230.1 bt230.2.1 bt230.2.2.1 bt230.2.2.2).bind fun t242 => (if t242 = true then (some true) else (some false)))) else (some false)) = some r := H
        have A69 := Aside0.mk A690
        clear A690
        by_cases c70 : t229 = true
        · subst c70
          have H1 : ((laws_toDevice.f k l1_0 l1_1 l1_2 l1_3).bind fun bt230 => ((laws_eqDevice.f k t203 t206 t209 t212 bt230.1 bt230.2.1 bt230.2.2.1 bt230.2.2.2).bind fun t242 => (if t242 = true then (some true) else (some false)))) = some r := by rw [if_pos rfl] at H; exact H
          clear H
          have H := H1
          clear H1
          replace H := Option.bind_eq_some_iff.mp H
          obtain ⟨⟨t230, t233, t236, t239⟩, A710, H⟩ := H
          replace H : ((laws_eqDevice.f k t203 t206 t209 t212 t230 t233 t236 t239).bind fun t242 => (if t242 = true then (some true) else (some false))) = some r := H
          have A71 := Aside0.mk A710
          clear A710
          replace H := Option.bind_eq_some_iff.mp H
          obtain ⟨t242, A720, H⟩ := H
          replace H : (if t242 = true then (some true) else (some false)) = some r := H
          have A72 := Aside0.mk A720
          clear A720
          by_cases c73 : t242 = true
          · subst c73
            have H1 : (some true) = some r := by rw [if_pos rfl] at H; exact H
            clear H
            have H := H1
            clear H1
            obtain rfl := Option.some.inj H
            go_enter Try.func16, Try.ntmps16
            try go_wp2_with (first | ((with_reducible refine gate_dst (N := 2) rfl ?_); refine box_event ?hg (N := 2) ?hd (cs := #[.slice A0_0 l0_0.length c0_0, .slice A0_1 l0_1.length c0_1, .slice A0_2 l0_2.length c0_2, .slice A0_3 l0_3.length c0_3]) (t := 81) ?hr ?_; (case hd => rfl); (case hg => rfl); (case hr => first | (go_simp; done) | (go_simp; rfl)); intro gb161 hg w74 hbox hb; have n0_ := Aside0.mk (below_step (bS HB.out) hb); have n1_ := Aside0.mk (hbox); have n2_ := Aside0.mk ((by rw [hg]; exact (below_size (bS HB.out)) : w.heap.size ≤ gb161)); have n3_ := n2_; clear HB; have HB := n0_; have BK161 := n1_; have GW161 := n2_; have GE161 := n3_; clear n0_ n1_ n2_ n3_; clear hb hbox hg) | ((with_reducible refine gate_dst (N := 3) rfl ?_); refine box_event ?hg (N := 3) ?hd (cs := #[.slice A1_0 l1_0.length c1_0, .slice A1_1 l1_1.length c1_1, .slice A1_2 l1_2.length c1_2, .slice A1_3 l1_3.length c1_3]) (t := 81) ?hr ?_; (case hd => rfl); (case hg => rfl); (case hr => first | (go_simp; done) | (go_simp; rfl)); intro gb162 hg w75 hbox hb; have n0_ := Aside0.mk (blk_below (kA BK161.out) hb); have n1_ := Aside0.mk (below_step (bS HB.out) hb); have n2_ := Aside0.mk (hbox); have n3_ := Aside0.mk ((by rw [hg]; exact (below_size (bS HB.out)) : w.heap.size ≤ gb162)); have n4_ := n3_; have n5_ := Aside0.mk ((by rw [hg]; exact Nat.ne_of_lt (blk_lt (g := gb161) (o := .cells #[.slice A0_0 l0_0.length c0_0, .slice A0_1 l0_1.length c0_1, .slice A0_2 l0_2.length c0_2, .slice A0_3 l0_3.length c0_3] 81 (0, 0)) (kA BK161.out)) : gb161 ≠ gb162)); have n6_ := Aside0.mk ((by rw [hg]; exact Nat.ne_of_gt (blk_lt (g := gb161) (o := .cells #[.slice A0_0 l0_0.length c0_0, .slice A0_1 l0_1.length c0_1, .slice A0_2 l0_2.length c0_2, .slice A0_3 l0_3.length c0_3] 81 (0, 0)) (kA BK161.out)) : gb162 ≠ gb161)); clear BK161 HB; have BK161 := n0_; have HB := n1_; have BK162 := n2_; have GW162 := n3_; have GE162 := n4_; have NB161_162 := n5_; have NB162_161 := n6_; clear n0_ n1_ n2_ n3_ n4_ n5_ n6_; clear hb hbox hg; have hnb76 := NB161_162.out; have hnc76 := NB162_161.out; obtain ⟨hcz77_0, hfz77_0, hcz77_1, hfz77_1, hcz77_2, hfz77_2, hcz77_3, hfz77_3⟩ := bk4 BK161.out) | ((with_reducible refine gate_callee (f := 67) rfl ?_); refine gL (some 12) rfl rfl Try.func67 (by kernel_rfl) rfl #[.agg #[.slice A0_0 l0_0.length c0_0, .slice A0_1 l0_1.length c0_1, .slice A0_2 l0_2.length c0_2, .slice A0_3 l0_3.length c0_3], .int .i64 1048576] rfl ?_; (with_reducible refine (laws_szDevice.calls _ _ l0_0 _ _ l0_1 _ _ l0_2 _ _ l0_3 1048576 t163 _ ?side1 ?side2 ?side3 ?side4 ?side5 ?side6 ?side7 ?side8 A3.out).mono ?_); (case side1 => exact cB HR0_0.out HB.out); (case side2 => exact HC0_0.out); (case side3 => exact cB HR0_1.out HB.out); (case side4 => exact HC0_1.out); (case side5 => exact cB HR0_2.out HB.out); (case side6 => exact HC0_2.out); (case side7 => exact cB HR0_3.out HB.out); (case side8 => exact HC0_3.out); rintro e w78 ⟨rfl, hb⟩; refine ⟨_, rfl, ?_⟩; have n0_ := Aside0.mk (blk_below (kA BK161.out) hb); have n1_ := Aside0.mk (blk_below (kA BK162.out) hb); have n2_ := Aside0.mk (below_step (bS HB.out) hb); clear BK161 BK162 HB; have BK161 := n0_; have BK162 := n1_; have HB := n2_; clear n0_ n1_ n2_; (try clear hb); (try clear hk); (try clear hi); obtain ⟨hcz79_0, hfz79_0, hcz79_1, hfz79_1, hcz79_2, hfz79_2, hcz79_3, hfz79_3⟩ := bk4 BK162.out) | ((with_reducible refine gate_callee (f := 67) rfl ?_); refine gL (some 17) rfl rfl Try.func67 (by kernel_rfl) rfl #[.agg #[.slice A1_0 l1_0.length c1_0, .slice A1_1 l1_1.length c1_1, .slice A1_2 l1_2.length c1_2, .slice A1_3 l1_3.length c1_3], .int .i64 t163] rfl ?_; (with_reducible refine (laws_szDevice.calls _ _ l1_0 _ _ l1_1 _ _ l1_2 _ _ l1_3 t163 t164 _ ?side1 ?side2 ?side3 ?side4 ?side5 ?side6 ?side7 ?side8 A10.out).mono ?_); (case side1 => exact cB HR1_0.out HB.out); (case side2 => exact HC1_0.out); (case side3 => exact cB HR1_1.out HB.out); (case side4 => exact HC1_1.out); (case side5 => exact cB HR1_2.out HB.out); (case side6 => exact HC1_2.out); (case side7 => exact cB HR1_3.out HB.out); (case side8 => exact HC1_3.out); rintro e w80 ⟨rfl, hb⟩; refine ⟨_, rfl, ?_⟩; have n0_ := Aside0.mk (blk_below (kA BK161.out) hb); have n1_ := Aside0.mk (blk_below (kA BK162.out) hb); have n2_ := Aside0.mk (below_step (bS HB.out) hb); clear BK161 BK162 HB; have BK161 := n0_; have BK162 := n1_; have HB := n2_; clear n0_ n1_ n2_; (try clear hb); (try clear hk); (try clear hi)))
            have n0_ := Aside0.mk (blk_drew BK161.out)
            have n1_ := Aside0.mk (blk_drew BK162.out)
            have n2_ := Aside0.mk (below_drew1 HB.out)
            clear BK161
            clear BK162
            clear HB
            have BK161 := n0_
            have BK162 := n1_
            have HB := n2_
            clear n0_ n1_ n2_
            refine start_ (n := 6) (S := fun w' => w'.cell? ⟨gb161, 0, none⟩ = some (.slice A0_0 l0_0.length c0_0) ∧ w'.cell? ⟨gb161, 1, none⟩ = some (.slice A0_1 l0_1.length c0_1) ∧ w'.cell? ⟨gb161, 2, none⟩ = some (.slice A0_2 l0_2.length c0_2) ∧ w'.cell? ⟨gb161, 3, none⟩ = some (.slice A0_3 l0_3.length c0_3) ∧ w'.cell? ⟨gb162, 0, none⟩ = some (.slice A1_0 l1_0.length c1_0) ∧ w'.cell? ⟨gb162, 1, none⟩ = some (.slice A1_1 l1_1.length c1_1) ∧ w'.cell? ⟨gb162, 2, none⟩ = some (.slice A1_2 l1_2.length c1_2) ∧ w'.cell? ⟨gb162, 3, none⟩ = some (.slice A1_3 l1_3.length c1_3)) (ds := []) #[false, false, false, false, false, false] (by kernel_rfl) rfl rfl ⟨(blk_cell BK161.out 0).trans rfl, (blk_cell BK161.out 1).trans rfl, (blk_cell BK161.out 2).trans rfl, (blk_cell BK161.out 3).trans rfl, (blk_cell BK162.out 0).trans rfl, (blk_cell BK162.out 1).trans rfl, (blk_cell BK162.out 2).trans rfl, (blk_cell BK162.out 3).trans rfl⟩ (fun hHeld => ?_)
            generalize w80.drew = w81 at BK161 BK162 HB hHeld ⊢
            refine take_ (i := 0) (N := some 20) (v := ?_) (a' := ?_) #[true, false, false, false, false, false] rfl rfl (by kernel_rfl) (fun _ _ _ h => h) (Or.inl ⟨by rfl, ?_⟩) hHeld ?_ ?_
            rotate_left
            · rintro w' ⟨s0, s1, s2, s3, s4, s5, s6, s7⟩
              go_simp
              with_reducible rfl
            rotate_left
            · simp only [Act.put, List.setIfInBounds_toArray, List.set_cons_zero, List.set_cons_succ, i64_w, i32_w]
              rfl
            refine take_ (i := 2) (N := some 22) (v := ?_) (a' := ?_) #[true, false, true, false, false, false] rfl rfl (by kernel_rfl) (fun _ _ _ h => h) (Or.inl ⟨by rfl, ?_⟩) hHeld ?_ ?_
            rotate_left
            · rintro w' ⟨s0, s1, s2, s3, s4, s5, s6, s7⟩
              go_simp
              with_reducible rfl
            rotate_left
            · simp only [Act.put, List.setIfInBounds_toArray, List.set_cons_zero, List.set_cons_succ, i64_w, i32_w]
              rfl
            refine one_ (i := 1) (N := some 21) #[true, true, true, false, false, false] rfl rfl (by kernel_rfl) (by decide) (fun K hK => ?_)
            refine goes_ Try.func69 (by kernel_rfl) rfl #[.agg #[.slice A0_0 l0_0.length c0_0, .slice A0_1 l0_1.length c0_1, .slice A0_2 l0_2.length c0_2, .slice A0_3 l0_3.length c0_3]] (by rfl) rfl rfl (by (try simp only [List.map_toArray, List.map_cons, List.map_nil]); first | done | rfl | (simp only [List.length_drop, List.length_take]; rfl)) ?_
            with_reducible refine (laws_toDevice.calls k _ _ l0_0 _ _ l0_1 _ _ l0_2 _ _ l0_3 t165 t168 t171 t174 _ ?side1 ?side2 ?side3 ?side4 ?side5 ?side6 ?side7 ?side8 A19.out).mono ?_
            (case side1 => exact cB HR0_0.out HB.out)
            (case side2 => exact HC0_0.out)
            (case side3 => exact cB HR0_1.out HB.out)
            (case side4 => exact HC0_1.out)
            (case side5 => exact cB HR0_2.out HB.out)
            (case side6 => exact HC0_2.out)
            (case side7 => exact cB HR0_3.out HB.out)
            (case side8 => exact HC0_3.out)
            rintro e w82 ⟨v166, v169, v172, v175, rfl, ho0, ho1, ho2, ho3, hb⟩
            refine ⟨_, rfl, ?_⟩
            have n0_ := Aside0.mk (Kd.R_lower ho0 (below_size (bS HB.out)))
            have n1_ := Aside0.mk (Kd.R_lower ho1 (below_size (bS HB.out)))
            have n2_ := Aside0.mk (Kd.R_lower ho2 (below_size (bS HB.out)))
            have n3_ := Aside0.mk (Kd.R_lower ho3 (below_size (bS HB.out)))
            have n4_ := Aside0.mk (blk_below (kA BK161.out) hb)
            have n5_ := Aside0.mk (blk_below (kA BK162.out) hb)
            have n6_ := Aside0.mk (below_step (bS HB.out) hb)
            clear BK161
            clear BK162
            clear HB
            have HO167 := n0_
            have HO170 := n1_
            have HO173 := n2_
            have HO176 := n3_
            have BK161 := n4_
            have BK162 := n5_
            have HB := n6_
            clear n0_ n1_ n2_ n3_ n4_ n5_ n6_
            (try clear hb)
            (try clear hb2)
            (try clear hk)
            (try clear hi)
            (try clear ho0)
            (try clear ho1)
            (try clear ho2)
            (try clear ho3)
            refine hK.out _ _ ⟨(blk_cell BK161.out 0).trans rfl, (blk_cell BK161.out 1).trans rfl, (blk_cell BK161.out 2).trans rfl, (blk_cell BK161.out 3).trans rfl, (blk_cell BK162.out 0).trans rfl, (blk_cell BK162.out 1).trans rfl, (blk_cell BK162.out 2).trans rfl, (blk_cell BK162.out 3).trans rfl⟩ (fun hHeld => ?_)
            clear hK K
            refine norm_ (a' := ?_) ?_ ?_
            rotate_left
            · show Act.put _ (some 21) _ = _
              simp only [Act.put, List.setIfInBounds_toArray, List.set_cons_zero, List.set_cons_succ, i64_w, i32_w]
              rfl
            refine one_ (i := 3) (N := some 23) #[true, true, true, true, false, false] rfl rfl (by kernel_rfl) (by decide) (fun K hK => ?_)
            refine goes_ Try.func69 (by kernel_rfl) rfl #[.agg #[.slice A1_0 l1_0.length c1_0, .slice A1_1 l1_1.length c1_1, .slice A1_2 l1_2.length c1_2, .slice A1_3 l1_3.length c1_3]] (by rfl) rfl rfl (by (try simp only [List.map_toArray, List.map_cons, List.map_nil]); first | done | rfl | (simp only [List.length_drop, List.length_take]; rfl)) ?_
            with_reducible refine (laws_toDevice.calls k _ _ l1_0 _ _ l1_1 _ _ l1_2 _ _ l1_3 t177 t180 t183 t186 _ ?side1 ?side2 ?side3 ?side4 ?side5 ?side6 ?side7 ?side8 A20.out).mono ?_
            (case side1 => exact cB HR1_0.out HB.out)
            (case side2 => exact HC1_0.out)
            (case side3 => exact cB HR1_1.out HB.out)
            (case side4 => exact HC1_1.out)
            (case side5 => exact cB HR1_2.out HB.out)
            (case side6 => exact HC1_2.out)
            (case side7 => exact cB HR1_3.out HB.out)
            (case side8 => exact HC1_3.out)
            rintro e w83 ⟨v178, v181, v184, v187, rfl, ho0, ho1, ho2, ho3, hb⟩
            refine ⟨_, rfl, ?_⟩
            have n0_ := Aside0.mk (rM (Kd.R_told (Kd.R_told (Kd.R_old (rA HO167.out) hb) (Kd.R_base ho0)) (Kd.R_base ho1)))
            have n1_ := Aside0.mk (rM (Kd.R_told (Kd.R_told (Kd.R_old (rA HO170.out) hb) (Kd.R_base ho0)) (Kd.R_base ho1)))
            have n2_ := Aside0.mk (rM (Kd.R_told (Kd.R_told (Kd.R_old (rA HO173.out) hb) (Kd.R_base ho2)) (Kd.R_base ho3)))
            have n3_ := Aside0.mk (rM (Kd.R_told (Kd.R_told (Kd.R_old (rA HO176.out) hb) (Kd.R_base ho2)) (Kd.R_base ho3)))
            have n4_ := Aside0.mk (Kd.R_lower (Kd.R_new' (Kd.R_new' ho0 (Kd.R_lt (rA HO167.out))) (Kd.R_lt (rA HO170.out))) (below_size (bS HB.out)))
            have n5_ := Aside0.mk (Kd.R_lower (Kd.R_new' (Kd.R_new' ho1 (Kd.R_lt (rA HO167.out))) (Kd.R_lt (rA HO170.out))) (below_size (bS HB.out)))
            have n6_ := Aside0.mk (Kd.R_lower (Kd.R_new' (Kd.R_new' ho2 (Kd.R_lt (rA HO173.out))) (Kd.R_lt (rA HO176.out))) (below_size (bS HB.out)))
            have n7_ := Aside0.mk (Kd.R_lower (Kd.R_new' (Kd.R_new' ho3 (Kd.R_lt (rA HO173.out))) (Kd.R_lt (rA HO176.out))) (below_size (bS HB.out)))
            have n8_ := Aside0.mk (blk_below (kA BK161.out) hb)
            have n9_ := Aside0.mk (blk_below (kA BK162.out) hb)
            have n10_ := Aside0.mk (below_step (bS HB.out) hb)
            clear HO167
            clear HO170
            clear HO173
            clear HO176
            clear BK161
            clear BK162
            clear HB
            have HO167 := n0_
            have HO170 := n1_
            have HO173 := n2_
            have HO176 := n3_
            have HO179 := n4_
            have HO182 := n5_
            have HO185 := n6_
            have HO188 := n7_
            have BK161 := n8_
            have BK162 := n9_
            have HB := n10_
            clear n0_ n1_ n2_ n3_ n4_ n5_ n6_ n7_ n8_ n9_ n10_
            (try clear hb)
            (try clear hb2)
            (try clear hk)
            (try clear hi)
            (try clear ho0)
            (try clear ho1)
            (try clear ho2)
            (try clear ho3)
            obtain ⟨Ao84, co84, eo84⟩ := Kd.R_slice HO167.out
            (first | subst eo84 | (injection eo84 with f1_ f2_ f3_; have f4_ := f1_.symm; have f5_ := f3_.symm; clear f1_ f2_ f3_; subst f4_; subst f5_))
            obtain ⟨Ao85, co85, eo85⟩ := Kd.R_slice HO170.out
            (first | subst eo85 | (injection eo85 with f1_ f2_ f3_; have f4_ := f1_.symm; have f5_ := f3_.symm; clear f1_ f2_ f3_; subst f4_; subst f5_))
            obtain ⟨Ao86, co86, eo86⟩ := Kd.R_slice HO173.out
            (first | subst eo86 | (injection eo86 with f1_ f2_ f3_; have f4_ := f1_.symm; have f5_ := f3_.symm; clear f1_ f2_ f3_; subst f4_; subst f5_))
            obtain ⟨Ao87, co87, eo87⟩ := Kd.R_slice HO176.out
            (first | subst eo87 | (injection eo87 with f1_ f2_ f3_; have f4_ := f1_.symm; have f5_ := f3_.symm; clear f1_ f2_ f3_; subst f4_; subst f5_))
            obtain ⟨Ao88, co88, eo88⟩ := Kd.R_slice HO179.out
            (first | subst eo88 | (injection eo88 with f1_ f2_ f3_; have f4_ := f1_.symm; have f5_ := f3_.symm; clear f1_ f2_ f3_; subst f4_; subst f5_))
            obtain ⟨Ao89, co89, eo89⟩ := Kd.R_slice HO182.out
            (first | subst eo89 | (injection eo89 with f1_ f2_ f3_; have f4_ := f1_.symm; have f5_ := f3_.symm; clear f1_ f2_ f3_; subst f4_; subst f5_))
            obtain ⟨Ao90, co90, eo90⟩ := Kd.R_slice HO185.out
            (first | subst eo90 | (injection eo90 with f1_ f2_ f3_; have f4_ := f1_.symm; have f5_ := f3_.symm; clear f1_ f2_ f3_; subst f4_; subst f5_))
            obtain ⟨Ao91, co91, eo91⟩ := Kd.R_slice HO188.out
            (first | subst eo91 | (injection eo91 with f1_ f2_ f3_; have f4_ := f1_.symm; have f5_ := f3_.symm; clear f1_ f2_ f3_; subst f4_; subst f5_))
            refine hK.out _ _ ⟨(blk_cell BK161.out 0).trans rfl, (blk_cell BK161.out 1).trans rfl, (blk_cell BK161.out 2).trans rfl, (blk_cell BK161.out 3).trans rfl, (blk_cell BK162.out 0).trans rfl, (blk_cell BK162.out 1).trans rfl, (blk_cell BK162.out 2).trans rfl, (blk_cell BK162.out 3).trans rfl⟩ (fun hHeld => ?_)
            clear hK K
            refine norm_ (a' := ?_) ?_ ?_
            rotate_left
            · show Act.put _ (some 23) _ = _
              simp only [Act.put, List.setIfInBounds_toArray, List.set_cons_zero, List.set_cons_succ, i64_w, i32_w]
              rfl
            refine one_ (i := 4) (N := some 24) #[true, true, true, true, true, false] rfl rfl (by kernel_rfl) (by decide) (fun K hK => ?_)
            refine goes_ Try.func72 (by kernel_rfl) rfl #[.agg #[.slice Ao84 t165.length co84, .slice Ao85 t168.length co85, .slice Ao86 t171.length co86, .slice Ao87 t174.length co87], .agg #[.slice Ao88 t177.length co88, .slice Ao89 t180.length co89, .slice Ao90 t183.length co90, .slice Ao91 t186.length co91]] (by rfl) rfl rfl (by (try simp only [List.map_toArray, List.map_cons, List.map_nil]); first | done | rfl | (simp only [List.length_drop, List.length_take]; rfl)) ?_
            with_reducible refine (spec_SameDevice.calls k _ _ t165 _ _ t168 _ _ t171 _ _ t174 _ _ t177 _ _ t180 _ _ t183 _ _ t186 t189 _ ?side1 ?side2 ?side3 ?side4 ?side5 ?side6 ?side7 ?side8 ?side9 ?side10 ?side11 ?side12 ?side13 ?side14 ?side15 ?side16 A21.out).mono ?_
            (case side1 => repeat (first | exact (Kd.R_reads' HO167.out).2.2 | (with_reducible refine Kd.C_alloc ?_ _) | (with_reducible refine Kd.C_drewN ?_ _) | (with_reducible refine Kd.C_drew ?_)))
            (case side2 => exact (Kd.R_reads' HO167.out).2.1)
            (case side3 => repeat (first | exact (Kd.R_reads' HO170.out).2.2 | (with_reducible refine Kd.C_alloc ?_ _) | (with_reducible refine Kd.C_drewN ?_ _) | (with_reducible refine Kd.C_drew ?_)))
            (case side4 => exact (Kd.R_reads' HO170.out).2.1)
            (case side5 => repeat (first | exact (Kd.R_reads' HO173.out).2.2 | (with_reducible refine Kd.C_alloc ?_ _) | (with_reducible refine Kd.C_drewN ?_ _) | (with_reducible refine Kd.C_drew ?_)))
            (case side6 => exact (Kd.R_reads' HO173.out).2.1)
            (case side7 => repeat (first | exact (Kd.R_reads' HO176.out).2.2 | (with_reducible refine Kd.C_alloc ?_ _) | (with_reducible refine Kd.C_drewN ?_ _) | (with_reducible refine Kd.C_drew ?_)))
            (case side8 => exact (Kd.R_reads' HO176.out).2.1)
            (case side9 => repeat (first | exact (Kd.R_reads' HO179.out).2.2 | (with_reducible refine Kd.C_alloc ?_ _) | (with_reducible refine Kd.C_drewN ?_ _) | (with_reducible refine Kd.C_drew ?_)))
            (case side10 => exact (Kd.R_reads' HO179.out).2.1)
            (case side11 => repeat (first | exact (Kd.R_reads' HO182.out).2.2 | (with_reducible refine Kd.C_alloc ?_ _) | (with_reducible refine Kd.C_drewN ?_ _) | (with_reducible refine Kd.C_drew ?_)))
            (case side12 => exact (Kd.R_reads' HO182.out).2.1)
            (case side13 => repeat (first | exact (Kd.R_reads' HO185.out).2.2 | (with_reducible refine Kd.C_alloc ?_ _) | (with_reducible refine Kd.C_drewN ?_ _) | (with_reducible refine Kd.C_drew ?_)))
            (case side14 => exact (Kd.R_reads' HO185.out).2.1)
            (case side15 => repeat (first | exact (Kd.R_reads' HO188.out).2.2 | (with_reducible refine Kd.C_alloc ?_ _) | (with_reducible refine Kd.C_drewN ?_ _) | (with_reducible refine Kd.C_drew ?_)))
            (case side16 => exact (Kd.R_reads' HO188.out).2.1)
            rintro e w92 ⟨rfl, hb⟩
            refine ⟨_, rfl, ?_⟩
            have n0_ := Aside0.mk (Kd.R_below (rA HO167.out) hb)
            have n1_ := Aside0.mk (Kd.R_below (rA HO170.out) hb)
            have n2_ := Aside0.mk (Kd.R_below (rA HO173.out) hb)
            have n3_ := Aside0.mk (Kd.R_below (rA HO176.out) hb)
            have n4_ := Aside0.mk (Kd.R_below (rA HO179.out) hb)
            have n5_ := Aside0.mk (Kd.R_below (rA HO182.out) hb)
            have n6_ := Aside0.mk (Kd.R_below (rA HO185.out) hb)
            have n7_ := Aside0.mk (Kd.R_below (rA HO188.out) hb)
            have n8_ := Aside0.mk (blk_below (kA BK161.out) hb)
            have n9_ := Aside0.mk (blk_below (kA BK162.out) hb)
            have n10_ := Aside0.mk (below_step (bS HB.out) hb)
            clear HO167
            clear HO170
            clear HO173
            clear HO176
            clear HO179
            clear HO182
            clear HO185
            clear HO188
            clear BK161
            clear BK162
            clear HB
            have HO167 := n0_
            have HO170 := n1_
            have HO173 := n2_
            have HO176 := n3_
            have HO179 := n4_
            have HO182 := n5_
            have HO185 := n6_
            have HO188 := n7_
            have BK161 := n8_
            have BK162 := n9_
            have HB := n10_
            clear n0_ n1_ n2_ n3_ n4_ n5_ n6_ n7_ n8_ n9_ n10_
            (try clear hb)
            (try clear hb2)
            (try clear hk)
            (try clear hi)
            refine hK.out _ _ ⟨(blk_cell BK161.out 0).trans rfl, (blk_cell BK161.out 1).trans rfl, (blk_cell BK161.out 2).trans rfl, (blk_cell BK161.out 3).trans rfl, (blk_cell BK162.out 0).trans rfl, (blk_cell BK162.out 1).trans rfl, (blk_cell BK162.out 2).trans rfl, (blk_cell BK162.out 3).trans rfl⟩ (fun hHeld => ?_)
            clear hK K
            refine norm_ (a' := ?_) ?_ ?_
            rotate_left
            · show Act.put _ (some 24) _ = _
              simp only [Act.put, List.setIfInBounds_toArray, List.set_cons_zero, List.set_cons_succ, i64_w, i32_w]
              rfl
            refine pure_ (i := 5) (N := some 6) (v := ?_) (a' := ?_) #[true, true, true, true, true, true] rfl rfl (by kernel_rfl) (fun _ _ _ h => h) (Or.inl ⟨by rfl, ?_⟩) ?_ ?_
            rotate_left
            · intro w'
              go_simp
              with_reducible rfl
            rotate_left
            · simp only [Act.put, List.setIfInBounds_toArray, List.set_cons_zero, List.set_cons_succ, i64_w, i32_w]
              rfl
            refine done_ (by kernel_rfl) ?_
            obtain ⟨hcz93_0, hfz93_0, hcz93_1, hfz93_1, hcz93_2, hfz93_2, hcz93_3, hfz93_3⟩ := bk4 BK161.out
            try go_wp2_with (first | ((with_reducible refine gate_callee (f := 69) rfl ?_); refine gL (some 26) rfl rfl Try.func69 (by kernel_rfl) rfl #[.agg #[.slice A0_0 l0_0.length c0_0, .slice A0_1 l0_1.length c0_1, .slice A0_2 l0_2.length c0_2, .slice A0_3 l0_3.length c0_3]] rfl ?_; (with_reducible refine (laws_toDevice.calls k _ _ l0_0 _ _ l0_1 _ _ l0_2 _ _ l0_3 t190 t193 t196 t199 _ ?side1 ?side2 ?side3 ?side4 ?side5 ?side6 ?side7 ?side8 A22.out).mono ?_); (case side1 => exact cB HR0_0.out HB.out); (case side2 => exact HC0_0.out); (case side3 => exact cB HR0_1.out HB.out); (case side4 => exact HC0_1.out); (case side5 => exact cB HR0_2.out HB.out); (case side6 => exact HC0_2.out); (case side7 => exact cB HR0_3.out HB.out); (case side8 => exact HC0_3.out); rintro e w94 ⟨v191, v194, v197, v200, rfl, ho0, ho1, ho2, ho3, hb⟩; refine ⟨_, rfl, ?_⟩; have n0_ := Aside0.mk (rM (Kd.R_told (Kd.R_told (Kd.R_old (rA HO167.out) hb) (Kd.R_base ho0)) (Kd.R_base ho1))); have n1_ := Aside0.mk (rM (Kd.R_told (Kd.R_told (Kd.R_old (rA HO170.out) hb) (Kd.R_base ho0)) (Kd.R_base ho1))); have n2_ := Aside0.mk (rM (Kd.R_told (Kd.R_told (Kd.R_old (rA HO173.out) hb) (Kd.R_base ho2)) (Kd.R_base ho3))); have n3_ := Aside0.mk (rM (Kd.R_told (Kd.R_told (Kd.R_old (rA HO176.out) hb) (Kd.R_base ho2)) (Kd.R_base ho3))); have n4_ := Aside0.mk (rM (Kd.R_told (Kd.R_told (Kd.R_old (rA HO179.out) hb) (Kd.R_base ho0)) (Kd.R_base ho1))); have n5_ := Aside0.mk (rM (Kd.R_told (Kd.R_told (Kd.R_old (rA HO182.out) hb) (Kd.R_base ho0)) (Kd.R_base ho1))); have n6_ := Aside0.mk (rM (Kd.R_told (Kd.R_told (Kd.R_old (rA HO185.out) hb) (Kd.R_base ho2)) (Kd.R_base ho3))); have n7_ := Aside0.mk (rM (Kd.R_told (Kd.R_told (Kd.R_old (rA HO188.out) hb) (Kd.R_base ho2)) (Kd.R_base ho3))); have n8_ := Aside0.mk (Kd.R_lower (Kd.R_new' (Kd.R_new' (Kd.R_new' (Kd.R_new' ho0 (Kd.R_lt (rA HO167.out))) (Kd.R_lt (rA HO170.out))) (Kd.R_lt (rA HO179.out))) (Kd.R_lt (rA HO182.out))) (below_size (bS HB.out))); have n9_ := Aside0.mk (Kd.R_lower (Kd.R_new' (Kd.R_new' (Kd.R_new' (Kd.R_new' ho1 (Kd.R_lt (rA HO167.out))) (Kd.R_lt (rA HO170.out))) (Kd.R_lt (rA HO179.out))) (Kd.R_lt (rA HO182.out))) (below_size (bS HB.out))); have n10_ := Aside0.mk (Kd.R_lower (Kd.R_new' (Kd.R_new' (Kd.R_new' (Kd.R_new' ho2 (Kd.R_lt (rA HO173.out))) (Kd.R_lt (rA HO176.out))) (Kd.R_lt (rA HO185.out))) (Kd.R_lt (rA HO188.out))) (below_size (bS HB.out))); have n11_ := Aside0.mk (Kd.R_lower (Kd.R_new' (Kd.R_new' (Kd.R_new' (Kd.R_new' ho3 (Kd.R_lt (rA HO173.out))) (Kd.R_lt (rA HO176.out))) (Kd.R_lt (rA HO185.out))) (Kd.R_lt (rA HO188.out))) (below_size (bS HB.out))); have n12_ := Aside0.mk (blk_below (kA BK161.out) hb); have n13_ := Aside0.mk (blk_below (kA BK162.out) hb); have n14_ := Aside0.mk (below_step (bS HB.out) hb); clear HO167 HO170 HO173 HO176 HO179 HO182 HO185 HO188 BK161 BK162 HB; have HO167 := n0_; have HO170 := n1_; have HO173 := n2_; have HO176 := n3_; have HO179 := n4_; have HO182 := n5_; have HO185 := n6_; have HO188 := n7_; have HO192 := n8_; have HO195 := n9_; have HO198 := n10_; have HO201 := n11_; have BK161 := n12_; have BK162 := n13_; have HB := n14_; clear n0_ n1_ n2_ n3_ n4_ n5_ n6_ n7_ n8_ n9_ n10_ n11_ n12_ n13_ n14_; (try clear hb); (try clear hk); (try clear hi); (try clear ho0); (try clear ho1); (try clear ho2); (try clear ho3)) | ((with_reducible refine gate_dst (N := 7) rfl ?_); refine box_event ?hg (N := 7) ?hd (cs := #[.slice none 0 0, .slice none 0 0, .slice none 0 0, .slice none 0 0]) (t := 72) ?hr ?_; (case hd => rfl); (case hg => rfl); (case hr => first | (go_simp; done) | (go_simp; rfl)); intro gb202 hg w95 hbox hb; have n0_ := Aside0.mk (Kd.R_below (rA HO167.out) hb); have n1_ := Aside0.mk (Kd.R_below (rA HO170.out) hb); have n2_ := Aside0.mk (Kd.R_below (rA HO173.out) hb); have n3_ := Aside0.mk (Kd.R_below (rA HO176.out) hb); have n4_ := Aside0.mk (Kd.R_below (rA HO179.out) hb); have n5_ := Aside0.mk (Kd.R_below (rA HO182.out) hb); have n6_ := Aside0.mk (Kd.R_below (rA HO185.out) hb); have n7_ := Aside0.mk (Kd.R_below (rA HO188.out) hb); have n8_ := Aside0.mk (Kd.R_below (rA HO192.out) hb); have n9_ := Aside0.mk (Kd.R_below (rA HO195.out) hb); have n10_ := Aside0.mk (Kd.R_below (rA HO198.out) hb); have n11_ := Aside0.mk (Kd.R_below (rA HO201.out) hb); have n12_ := Aside0.mk (blk_below (kA BK161.out) hb); have n13_ := Aside0.mk (blk_below (kA BK162.out) hb); have n14_ := Aside0.mk (below_step (bS HB.out) hb); have n15_ := Aside0.mk (hbox); have n16_ := Aside0.mk ((by rw [hg]; exact (below_size (bS HB.out)) : w.heap.size ≤ gb202)); have n17_ := n16_; have n18_ := Aside0.mk ((by rw [hg]; exact Nat.ne_of_lt (blk_lt (g := gb161) (o := .cells #[.slice A0_0 l0_0.length c0_0, .slice A0_1 l0_1.length c0_1, .slice A0_2 l0_2.length c0_2, .slice A0_3 l0_3.length c0_3] 81 (0, 0)) (kA BK161.out)) : gb161 ≠ gb202)); have n19_ := Aside0.mk ((by rw [hg]; exact Nat.ne_of_gt (blk_lt (g := gb161) (o := .cells #[.slice A0_0 l0_0.length c0_0, .slice A0_1 l0_1.length c0_1, .slice A0_2 l0_2.length c0_2, .slice A0_3 l0_3.length c0_3] 81 (0, 0)) (kA BK161.out)) : gb202 ≠ gb161)); have n20_ := Aside0.mk ((by rw [hg]; exact Nat.ne_of_lt (blk_lt (g := gb162) (o := .cells #[.slice A1_0 l1_0.length c1_0, .slice A1_1 l1_1.length c1_1, .slice A1_2 l1_2.length c1_2, .slice A1_3 l1_3.length c1_3] 81 (0, 0)) (kA BK162.out)) : gb162 ≠ gb202)); have n21_ := Aside0.mk ((by rw [hg]; exact Nat.ne_of_gt (blk_lt (g := gb162) (o := .cells #[.slice A1_0 l1_0.length c1_0, .slice A1_1 l1_1.length c1_1, .slice A1_2 l1_2.length c1_2, .slice A1_3 l1_3.length c1_3] 81 (0, 0)) (kA BK162.out)) : gb202 ≠ gb162)); clear HO167 HO170 HO173 HO176 HO179 HO182 HO185 HO188 HO192 HO195 HO198 HO201 BK161 BK162 HB; have HO167 := n0_; have HO170 := n1_; have HO173 := n2_; have HO176 := n3_; have HO179 := n4_; have HO182 := n5_; have HO185 := n6_; have HO188 := n7_; have HO192 := n8_; have HO195 := n9_; have HO198 := n10_; have HO201 := n11_; have BK161 := n12_; have BK162 := n13_; have HB := n14_; have BK202 := n15_; have GW202 := n16_; have GE202 := n17_; have NB161_202 := n18_; have NB202_161 := n19_; have NB162_202 := n20_; have NB202_162 := n21_; clear n0_ n1_ n2_ n3_ n4_ n5_ n6_ n7_ n8_ n9_ n10_ n11_ n12_ n13_ n14_ n15_ n16_ n17_ n18_ n19_ n20_ n21_; clear hb hbox hg; obtain ⟨Ao96, co96, eo96⟩ := Kd.R_slice HO192.out; subst eo96; have hnb97 := NB202_161.out; have hnc97 := NB161_202.out; have hnb98 := NB202_162.out; have hnc98 := NB162_202.out; obtain ⟨hcz99_0, hfz99_0, hcz99_1, hfz99_1, hcz99_2, hfz99_2, hcz99_3, hfz99_3⟩ := bk4 BK202.out; obtain ⟨Ao100, co100, eo100⟩ := Kd.R_slice HO195.out; subst eo100; obtain ⟨Ao101, co101, eo101⟩ := Kd.R_slice HO198.out; subst eo101; obtain ⟨Ao102, co102, eo102⟩ := Kd.R_slice HO201.out; subst eo102; obtain ⟨hcz103_0, hfz103_0, hcz103_1, hfz103_1, hcz103_2, hfz103_2, hcz103_3, hfz103_3⟩ := bk4 BK162.out) | ((with_reducible refine gate_callee (f := 69) rfl ?_); refine gL (some 28) rfl rfl Try.func69 (by kernel_rfl) rfl #[.agg #[.slice A1_0 l1_0.length c1_0, .slice A1_1 l1_1.length c1_1, .slice A1_2 l1_2.length c1_2, .slice A1_3 l1_3.length c1_3]] rfl ?_; (with_reducible refine (laws_toDevice.calls k _ _ l1_0 _ _ l1_1 _ _ l1_2 _ _ l1_3 t203 t206 t209 t212 _ ?side1 ?side2 ?side3 ?side4 ?side5 ?side6 ?side7 ?side8 A23.out).mono ?_); (case side1 => exact Kd.C_below HR1_0.out (bS HB.out)); (case side2 => exact HC1_0.out); (case side3 => exact Kd.C_below HR1_1.out (bS HB.out)); (case side4 => exact HC1_1.out); (case side5 => exact Kd.C_below HR1_2.out (bS HB.out)); (case side6 => exact HC1_2.out); (case side7 => exact Kd.C_below HR1_3.out (bS HB.out)); (case side8 => exact HC1_3.out); rintro e w104 ⟨v204, v207, v210, v213, rfl, ho0, ho1, ho2, ho3, hb⟩; refine ⟨_, rfl, ?_⟩; have n0_ := Aside0.mk (rM (Kd.R_told (Kd.R_told (Kd.R_old (rF4 HO167.out BK202.out) hb) (Kd.R_base ho0)) (Kd.R_base ho1))); have n1_ := Aside0.mk (rM (Kd.R_told (Kd.R_told (Kd.R_old (rF4 HO170.out BK202.out) hb) (Kd.R_base ho0)) (Kd.R_base ho1))); have n2_ := Aside0.mk (rM (Kd.R_told (Kd.R_told (Kd.R_old (rF4 HO173.out BK202.out) hb) (Kd.R_base ho2)) (Kd.R_base ho3))); have n3_ := Aside0.mk (rM (Kd.R_told (Kd.R_told (Kd.R_old (rF4 HO176.out BK202.out) hb) (Kd.R_base ho2)) (Kd.R_base ho3))); have n4_ := Aside0.mk (rM (Kd.R_told (Kd.R_told (Kd.R_old (rF4 HO179.out BK202.out) hb) (Kd.R_base ho0)) (Kd.R_base ho1))); have n5_ := Aside0.mk (rM (Kd.R_told (Kd.R_told (Kd.R_old (rF4 HO182.out BK202.out) hb) (Kd.R_base ho0)) (Kd.R_base ho1))); have n6_ := Aside0.mk (rM (Kd.R_told (Kd.R_told (Kd.R_old (rF4 HO185.out BK202.out) hb) (Kd.R_base ho2)) (Kd.R_base ho3))); have n7_ := Aside0.mk (rM (Kd.R_told (Kd.R_told (Kd.R_old (rF4 HO188.out BK202.out) hb) (Kd.R_base ho2)) (Kd.R_base ho3))); have n8_ := Aside0.mk (rM (Kd.R_told (Kd.R_told (Kd.R_old (rF4 HO192.out BK202.out) hb) (Kd.R_base ho0)) (Kd.R_base ho1))); have n9_ := Aside0.mk (rM (Kd.R_told (Kd.R_told (Kd.R_old (rF4 HO195.out BK202.out) hb) (Kd.R_base ho0)) (Kd.R_base ho1))); have n10_ := Aside0.mk (rM (Kd.R_told (Kd.R_told (Kd.R_old (rF4 HO198.out BK202.out) hb) (Kd.R_base ho2)) (Kd.R_base ho3))); have n11_ := Aside0.mk (rM (Kd.R_told (Kd.R_told (Kd.R_old (rF4 HO201.out BK202.out) hb) (Kd.R_base ho2)) (Kd.R_base ho3))); have n12_ := Aside0.mk (Kd.R_lower (Kd.R_new' (Kd.R_new' (Kd.R_new' (Kd.R_new' (Kd.R_new' (Kd.R_new' ho0 (Kd.R_lt (rF4 HO167.out BK202.out))) (Kd.R_lt (rF4 HO170.out BK202.out))) (Kd.R_lt (rF4 HO179.out BK202.out))) (Kd.R_lt (rF4 HO182.out BK202.out))) (Kd.R_lt (rF4 HO192.out BK202.out))) (Kd.R_lt (rF4 HO195.out BK202.out))) (below_size (bS HB.out))); have n13_ := Aside0.mk (Kd.R_lower (Kd.R_new' (Kd.R_new' (Kd.R_new' (Kd.R_new' (Kd.R_new' (Kd.R_new' ho1 (Kd.R_lt (rF4 HO167.out BK202.out))) (Kd.R_lt (rF4 HO170.out BK202.out))) (Kd.R_lt (rF4 HO179.out BK202.out))) (Kd.R_lt (rF4 HO182.out BK202.out))) (Kd.R_lt (rF4 HO192.out BK202.out))) (Kd.R_lt (rF4 HO195.out BK202.out))) (below_size (bS HB.out))); have n14_ := Aside0.mk (Kd.R_lower (Kd.R_new' (Kd.R_new' (Kd.R_new' (Kd.R_new' (Kd.R_new' (Kd.R_new' ho2 (Kd.R_lt (rF4 HO173.out BK202.out))) (Kd.R_lt (rF4 HO176.out BK202.out))) (Kd.R_lt (rF4 HO185.out BK202.out))) (Kd.R_lt (rF4 HO188.out BK202.out))) (Kd.R_lt (rF4 HO198.out BK202.out))) (Kd.R_lt (rF4 HO201.out BK202.out))) (below_size (bS HB.out))); have n15_ := Aside0.mk (Kd.R_lower (Kd.R_new' (Kd.R_new' (Kd.R_new' (Kd.R_new' (Kd.R_new' (Kd.R_new' ho3 (Kd.R_lt (rF4 HO173.out BK202.out))) (Kd.R_lt (rF4 HO176.out BK202.out))) (Kd.R_lt (rF4 HO185.out BK202.out))) (Kd.R_lt (rF4 HO188.out BK202.out))) (Kd.R_lt (rF4 HO198.out BK202.out))) (Kd.R_lt (rF4 HO201.out BK202.out))) (below_size (bS HB.out))); have n16_ := Aside0.mk (blk_below (kF4 BK161.out NB161_202.out) hb); have n17_ := Aside0.mk (blk_below (kF4 BK162.out NB162_202.out) hb); have n18_ := Aside0.mk (blk_below (kP4 BK202.out) hb); have n19_ := Aside0.mk (below_step (bS HB.out) hb); clear HO167 HO170 HO173 HO176 HO179 HO182 HO185 HO188 HO192 HO195 HO198 HO201 BK161 BK162 BK202 HB; have HO167 := n0_; have HO170 := n1_; have HO173 := n2_; have HO176 := n3_; have HO179 := n4_; have HO182 := n5_; have HO185 := n6_; have HO188 := n7_; have HO192 := n8_; have HO195 := n9_; have HO198 := n10_; have HO201 := n11_; have HO205 := n12_; have HO208 := n13_; have HO211 := n14_; have HO214 := n15_; have BK161 := n16_; have BK162 := n17_; have BK202 := n18_; have HB := n19_; clear n0_ n1_ n2_ n3_ n4_ n5_ n6_ n7_ n8_ n9_ n10_ n11_ n12_ n13_ n14_ n15_ n16_ n17_ n18_ n19_; (try clear hb); (try clear hk); (try clear hi); (try clear ho0); (try clear ho1); (try clear ho2); (try clear ho3)) | ((with_reducible refine gate_dst (N := 8) rfl ?_); refine box_event ?hg (N := 8) ?hd (cs := #[.slice none 0 0, .slice none 0 0, .slice none 0 0, .slice none 0 0]) (t := 72) ?hr ?_; (case hd => rfl); (case hg => rfl); (case hr => first | (go_simp; done) | (go_simp; rfl)); intro gb215 hg w105 hbox hb; have n0_ := Aside0.mk (Kd.R_below (rA HO167.out) hb); have n1_ := Aside0.mk (Kd.R_below (rA HO170.out) hb); have n2_ := Aside0.mk (Kd.R_below (rA HO173.out) hb); have n3_ := Aside0.mk (Kd.R_below (rA HO176.out) hb); have n4_ := Aside0.mk (Kd.R_below (rA HO179.out) hb); have n5_ := Aside0.mk (Kd.R_below (rA HO182.out) hb); have n6_ := Aside0.mk (Kd.R_below (rA HO185.out) hb); have n7_ := Aside0.mk (Kd.R_below (rA HO188.out) hb); have n8_ := Aside0.mk (Kd.R_below (rA HO192.out) hb); have n9_ := Aside0.mk (Kd.R_below (rA HO195.out) hb); have n10_ := Aside0.mk (Kd.R_below (rA HO198.out) hb); have n11_ := Aside0.mk (Kd.R_below (rA HO201.out) hb); have n12_ := Aside0.mk (Kd.R_below (rA HO205.out) hb); have n13_ := Aside0.mk (Kd.R_below (rA HO208.out) hb); have n14_ := Aside0.mk (Kd.R_below (rA HO211.out) hb); have n15_ := Aside0.mk (Kd.R_below (rA HO214.out) hb); have n16_ := Aside0.mk (blk_below (kA BK161.out) hb); have n17_ := Aside0.mk (blk_below (kA BK162.out) hb); have n18_ := Aside0.mk (blk_below (kA BK202.out) hb); have n19_ := Aside0.mk (below_step (bS HB.out) hb); have n20_ := Aside0.mk (hbox); have n21_ := Aside0.mk ((by rw [hg]; exact (below_size (bS HB.out)) : w.heap.size ≤ gb215)); have n22_ := n21_; have n23_ := Aside0.mk ((by rw [hg]; exact Nat.ne_of_lt (blk_lt (g := gb161) (o := .cells #[.slice A0_0 l0_0.length c0_0, .slice A0_1 l0_1.length c0_1, .slice A0_2 l0_2.length c0_2, .slice A0_3 l0_3.length c0_3] 81 (0, 0)) (kA BK161.out)) : gb161 ≠ gb215)); have n24_ := Aside0.mk ((by rw [hg]; exact Nat.ne_of_gt (blk_lt (g := gb161) (o := .cells #[.slice A0_0 l0_0.length c0_0, .slice A0_1 l0_1.length c0_1, .slice A0_2 l0_2.length c0_2, .slice A0_3 l0_3.length c0_3] 81 (0, 0)) (kA BK161.out)) : gb215 ≠ gb161)); have n25_ := Aside0.mk ((by rw [hg]; exact Nat.ne_of_lt (blk_lt (g := gb162) (o := .cells #[.slice A1_0 l1_0.length c1_0, .slice A1_1 l1_1.length c1_1, .slice A1_2 l1_2.length c1_2, .slice A1_3 l1_3.length c1_3] 81 (0, 0)) (kA BK162.out)) : gb162 ≠ gb215)); have n26_ := Aside0.mk ((by rw [hg]; exact Nat.ne_of_gt (blk_lt (g := gb162) (o := .cells #[.slice A1_0 l1_0.length c1_0, .slice A1_1 l1_1.length c1_1, .slice A1_2 l1_2.length c1_2, .slice A1_3 l1_3.length c1_3] 81 (0, 0)) (kA BK162.out)) : gb215 ≠ gb162)); have n27_ := Aside0.mk ((by rw [hg]; exact Nat.ne_of_lt (blk_lt (g := gb202) (o := .cells #[.slice Ao96 t190.length co96, .slice Ao100 t193.length co100, .slice Ao101 t196.length co101, .slice Ao102 t199.length co102] 72 (0, 0)) (kA BK202.out)) : gb202 ≠ gb215)); have n28_ := Aside0.mk ((by rw [hg]; exact Nat.ne_of_gt (blk_lt (g := gb202) (o := .cells #[.slice Ao96 t190.length co96, .slice Ao100 t193.length co100, .slice Ao101 t196.length co101, .slice Ao102 t199.length co102] 72 (0, 0)) (kA BK202.out)) : gb215 ≠ gb202)); clear HO167 HO170 HO173 HO176 HO179 HO182 HO185 HO188 HO192 HO195 HO198 HO201 HO205 HO208 HO211 HO214 BK161 BK162 BK202 HB; have HO167 := n0_; have HO170 := n1_; have HO173 := n2_; have HO176 := n3_; have HO179 := n4_; have HO182 := n5_; have HO185 := n6_; have HO188 := n7_; have HO192 := n8_; have HO195 := n9_; have HO198 := n10_; have HO201 := n11_; have HO205 := n12_; have HO208 := n13_; have HO211 := n14_; have HO214 := n15_; have BK161 := n16_; have BK162 := n17_; have BK202 := n18_; have HB := n19_; have BK215 := n20_; have GW215 := n21_; have GE215 := n22_; have NB161_215 := n23_; have NB215_161 := n24_; have NB162_215 := n25_; have NB215_162 := n26_; have NB202_215 := n27_; have NB215_202 := n28_; clear n0_ n1_ n2_ n3_ n4_ n5_ n6_ n7_ n8_ n9_ n10_ n11_ n12_ n13_ n14_ n15_ n16_ n17_ n18_ n19_ n20_ n21_ n22_ n23_ n24_ n25_ n26_ n27_ n28_; clear hb hbox hg; obtain ⟨Ao106, co106, eo106⟩ := Kd.R_slice HO205.out; subst eo106; have hnb107 := NB215_161.out; have hnc107 := NB161_215.out; have hnb108 := NB215_162.out; have hnc108 := NB162_215.out; have hnb109 := NB215_202.out; have hnc109 := NB202_215.out; obtain ⟨hcz110_0, hfz110_0, hcz110_1, hfz110_1, hcz110_2, hfz110_2, hcz110_3, hfz110_3⟩ := bk4 BK215.out; obtain ⟨Ao111, co111, eo111⟩ := Kd.R_slice HO208.out; subst eo111; obtain ⟨Ao112, co112, eo112⟩ := Kd.R_slice HO211.out; subst eo112; obtain ⟨Ao113, co113, eo113⟩ := Kd.R_slice HO214.out; subst eo113; obtain ⟨hcz114_0, hfz114_0, hcz114_1, hfz114_1, hcz114_2, hfz114_2, hcz114_3, hfz114_3⟩ := bk4 BK202.out) | ((with_reducible refine gate_callee (f := 73) rfl ?_); refine gL (some 31) rfl rfl Try.func73 (by kernel_rfl) rfl #[.agg #[.slice Ao96 t190.length co96, .slice Ao100 t193.length co100, .slice Ao101 t196.length co101, .slice Ao102 t199.length co102], .agg #[.slice Ao106 t203.length co106, .slice Ao111 t206.length co111, .slice Ao112 t209.length co112, .slice Ao113 t212.length co113]] rfl ?_; (with_reducible refine (impl_SameDevice.calls k _ _ t190 _ _ t193 _ _ t196 _ _ t199 _ _ t203 _ _ t206 _ _ t209 _ _ t212 t216 _ ?side1 ?side2 ?side3 ?side4 ?side5 ?side6 ?side7 ?side8 ?side9 ?side10 ?side11 ?side12 ?side13 ?side14 ?side15 ?side16 A24.out).mono ?_); (case side1 => exact (Kd.R_reads' (rF4 HO192.out BK215.out)).2.2); (case side2 => exact (Kd.R_reads' HO192.out).2.1); (case side3 => exact (Kd.R_reads' (rF4 HO195.out BK215.out)).2.2); (case side4 => exact (Kd.R_reads' HO195.out).2.1); (case side5 => exact (Kd.R_reads' (rF4 HO198.out BK215.out)).2.2); (case side6 => exact (Kd.R_reads' HO198.out).2.1); (case side7 => exact (Kd.R_reads' (rF4 HO201.out BK215.out)).2.2); (case side8 => exact (Kd.R_reads' HO201.out).2.1); (case side9 => exact (Kd.R_reads' (rF4 HO205.out BK215.out)).2.2); (case side10 => exact (Kd.R_reads' HO205.out).2.1); (case side11 => exact (Kd.R_reads' (rF4 HO208.out BK215.out)).2.2); (case side12 => exact (Kd.R_reads' HO208.out).2.1); (case side13 => exact (Kd.R_reads' (rF4 HO211.out BK215.out)).2.2); (case side14 => exact (Kd.R_reads' HO211.out).2.1); (case side15 => exact (Kd.R_reads' (rF4 HO214.out BK215.out)).2.2); (case side16 => exact (Kd.R_reads' HO214.out).2.1); rintro e w115 ⟨rfl, hb⟩; refine ⟨_, rfl, ?_⟩; have n0_ := Aside0.mk (Kd.R_below (rF4 HO167.out BK215.out) hb); have n1_ := Aside0.mk (Kd.R_below (rF4 HO170.out BK215.out) hb); have n2_ := Aside0.mk (Kd.R_below (rF4 HO173.out BK215.out) hb); have n3_ := Aside0.mk (Kd.R_below (rF4 HO176.out BK215.out) hb); have n4_ := Aside0.mk (Kd.R_below (rF4 HO179.out BK215.out) hb); have n5_ := Aside0.mk (Kd.R_below (rF4 HO182.out BK215.out) hb); have n6_ := Aside0.mk (Kd.R_below (rF4 HO185.out BK215.out) hb); have n7_ := Aside0.mk (Kd.R_below (rF4 HO188.out BK215.out) hb); have n8_ := Aside0.mk (Kd.R_below (rF4 HO192.out BK215.out) hb); have n9_ := Aside0.mk (Kd.R_below (rF4 HO195.out BK215.out) hb); have n10_ := Aside0.mk (Kd.R_below (rF4 HO198.out BK215.out) hb); have n11_ := Aside0.mk (Kd.R_below (rF4 HO201.out BK215.out) hb); have n12_ := Aside0.mk (Kd.R_below (rF4 HO205.out BK215.out) hb); have n13_ := Aside0.mk (Kd.R_below (rF4 HO208.out BK215.out) hb); have n14_ := Aside0.mk (Kd.R_below (rF4 HO211.out BK215.out) hb); have n15_ := Aside0.mk (Kd.R_below (rF4 HO214.out BK215.out) hb); have n16_ := Aside0.mk (blk_below (kF4 BK161.out NB161_215.out) hb); have n17_ := Aside0.mk (blk_below (kF4 BK162.out NB162_215.out) hb); have n18_ := Aside0.mk (blk_below (kF4 BK202.out NB202_215.out) hb); have n19_ := Aside0.mk (blk_below (kP4 BK215.out) hb); have n20_ := Aside0.mk (below_step (bS HB.out) hb); clear HO167 HO170 HO173 HO176 HO179 HO182 HO185 HO188 HO192 HO195 HO198 HO201 HO205 HO208 HO211 HO214 BK161 BK162 BK202 BK215 HB; have HO167 := n0_; have HO170 := n1_; have HO173 := n2_; have HO176 := n3_; have HO179 := n4_; have HO182 := n5_; have HO185 := n6_; have HO188 := n7_; have HO192 := n8_; have HO195 := n9_; have HO198 := n10_; have HO201 := n11_; have HO205 := n12_; have HO208 := n13_; have HO211 := n14_; have HO214 := n15_; have BK161 := n16_; have BK162 := n17_; have BK202 := n18_; have BK215 := n19_; have HB := n20_; clear n0_ n1_ n2_ n3_ n4_ n5_ n6_ n7_ n8_ n9_ n10_ n11_ n12_ n13_ n14_ n15_ n16_ n17_ n18_ n19_ n20_; (try clear hb); (try clear hk); (try clear hi)))
            have n0_ := Aside0.mk (Kd.R_drew HO167.out)
            have n1_ := Aside0.mk (Kd.R_drew HO170.out)
            have n2_ := Aside0.mk (Kd.R_drew HO173.out)
            have n3_ := Aside0.mk (Kd.R_drew HO176.out)
            have n4_ := Aside0.mk (Kd.R_drew HO179.out)
            have n5_ := Aside0.mk (Kd.R_drew HO182.out)
            have n6_ := Aside0.mk (Kd.R_drew HO185.out)
            have n7_ := Aside0.mk (Kd.R_drew HO188.out)
            have n8_ := Aside0.mk (Kd.R_drew HO192.out)
            have n9_ := Aside0.mk (Kd.R_drew HO195.out)
            have n10_ := Aside0.mk (Kd.R_drew HO198.out)
            have n11_ := Aside0.mk (Kd.R_drew HO201.out)
            have n12_ := Aside0.mk (Kd.R_drew HO205.out)
            have n13_ := Aside0.mk (Kd.R_drew HO208.out)
            have n14_ := Aside0.mk (Kd.R_drew HO211.out)
            have n15_ := Aside0.mk (Kd.R_drew HO214.out)
            have n16_ := Aside0.mk (blk_drew BK161.out)
            have n17_ := Aside0.mk (blk_drew BK162.out)
            have n18_ := Aside0.mk (blk_drew BK202.out)
            have n19_ := Aside0.mk (blk_drew BK215.out)
            have n20_ := Aside0.mk (below_drew1 HB.out)
            clear HO167
            clear HO170
            clear HO173
            clear HO176
            clear HO179
            clear HO182
            clear HO185
            clear HO188
            clear HO192
            clear HO195
            clear HO198
            clear HO201
            clear HO205
            clear HO208
            clear HO211
            clear HO214
            clear BK161
            clear BK162
            clear BK202
            clear BK215
            clear HB
            have HO167 := n0_
            have HO170 := n1_
            have HO173 := n2_
            have HO176 := n3_
            have HO179 := n4_
            have HO182 := n5_
            have HO185 := n6_
            have HO188 := n7_
            have HO192 := n8_
            have HO195 := n9_
            have HO198 := n10_
            have HO201 := n11_
            have HO205 := n12_
            have HO208 := n13_
            have HO211 := n14_
            have HO214 := n15_
            have BK161 := n16_
            have BK162 := n17_
            have BK202 := n18_
            have BK215 := n19_
            have HB := n20_
            clear n0_ n1_ n2_ n3_ n4_ n5_ n6_ n7_ n8_ n9_ n10_ n11_ n12_ n13_ n14_ n15_ n16_ n17_ n18_ n19_ n20_
            refine start_ (n := 5) (S := fun w' => w'.cell? ⟨gb202, 0, none⟩ = some (.slice Ao96 t190.length co96) ∧ w'.cell? ⟨gb202, 1, none⟩ = some (.slice Ao100 t193.length co100) ∧ w'.cell? ⟨gb202, 2, none⟩ = some (.slice Ao101 t196.length co101) ∧ w'.cell? ⟨gb202, 3, none⟩ = some (.slice Ao102 t199.length co102) ∧ w'.cell? ⟨gb161, 0, none⟩ = some (.slice A0_0 l0_0.length c0_0) ∧ w'.cell? ⟨gb161, 1, none⟩ = some (.slice A0_1 l0_1.length c0_1) ∧ w'.cell? ⟨gb161, 2, none⟩ = some (.slice A0_2 l0_2.length c0_2) ∧ w'.cell? ⟨gb161, 3, none⟩ = some (.slice A0_3 l0_3.length c0_3)) (ds := []) #[false, false, false, false, false] (by kernel_rfl) rfl rfl ⟨(blk_cell BK202.out 0).trans rfl, (blk_cell BK202.out 1).trans rfl, (blk_cell BK202.out 2).trans rfl, (blk_cell BK202.out 3).trans rfl, (blk_cell BK161.out 0).trans rfl, (blk_cell BK161.out 1).trans rfl, (blk_cell BK161.out 2).trans rfl, (blk_cell BK161.out 3).trans rfl⟩ (fun hHeld => ?_)
            generalize w115.drew = w116 at HO167 HO170 HO173 HO176 HO179 HO182 HO185 HO188 HO192 HO195 HO198 HO201 HO205 HO208 HO211 HO214 BK161 BK162 BK202 BK215 HB hHeld ⊢
            refine take_ (i := 0) (N := some 35) (v := ?_) (a' := ?_) #[true, false, false, false, false] rfl rfl (by kernel_rfl) (fun _ _ _ h => h) (Or.inl ⟨by rfl, ?_⟩) hHeld ?_ ?_
            rotate_left
            · rintro w' ⟨s0, s1, s2, s3, s4, s5, s6, s7⟩
              go_simp
              with_reducible rfl
            rotate_left
            · simp only [Act.put, List.setIfInBounds_toArray, List.set_cons_zero, List.set_cons_succ, i64_w, i32_w]
              rfl
            refine take_ (i := 1) (N := some 36) (v := ?_) (a' := ?_) #[true, true, false, false, false] rfl rfl (by kernel_rfl) (fun _ _ _ h => h) (Or.inl ⟨by rfl, ?_⟩) hHeld ?_ ?_
            rotate_left
            · rintro w' ⟨s0, s1, s2, s3, s4, s5, s6, s7⟩
              go_simp
              with_reducible rfl
            rotate_left
            · simp only [Act.put, List.setIfInBounds_toArray, List.set_cons_zero, List.set_cons_succ, i64_w, i32_w]
              rfl
            refine one_ (i := 2) (N := some 37) #[true, true, true, false, false] rfl rfl (by kernel_rfl) (by decide) (fun K hK => ?_)
            refine goes_ Try.func69 (by kernel_rfl) rfl #[.agg #[.slice A0_0 l0_0.length c0_0, .slice A0_1 l0_1.length c0_1, .slice A0_2 l0_2.length c0_2, .slice A0_3 l0_3.length c0_3]] (by rfl) rfl rfl (by (try simp only [List.map_toArray, List.map_cons, List.map_nil]); first | done | rfl | (simp only [List.length_drop, List.length_take]; rfl)) ?_
            with_reducible refine (laws_toDevice.calls k _ _ l0_0 _ _ l0_1 _ _ l0_2 _ _ l0_3 t217 t220 t223 t226 _ ?side1 ?side2 ?side3 ?side4 ?side5 ?side6 ?side7 ?side8 A68.out).mono ?_
            (case side1 => exact cB HR0_0.out HB.out)
            (case side2 => exact HC0_0.out)
            (case side3 => exact cB HR0_1.out HB.out)
            (case side4 => exact HC0_1.out)
            (case side5 => exact cB HR0_2.out HB.out)
            (case side6 => exact HC0_2.out)
            (case side7 => exact cB HR0_3.out HB.out)
            (case side8 => exact HC0_3.out)
            rintro e w117 ⟨v218, v221, v224, v227, rfl, ho0, ho1, ho2, ho3, hb⟩
            refine ⟨_, rfl, ?_⟩
            have n0_ := Aside0.mk (rM (Kd.R_told (Kd.R_told (Kd.R_old (rA HO167.out) hb) (Kd.R_base ho0)) (Kd.R_base ho1)))
            have n1_ := Aside0.mk (rM (Kd.R_told (Kd.R_told (Kd.R_old (rA HO170.out) hb) (Kd.R_base ho0)) (Kd.R_base ho1)))
            have n2_ := Aside0.mk (rM (Kd.R_told (Kd.R_told (Kd.R_old (rA HO173.out) hb) (Kd.R_base ho2)) (Kd.R_base ho3)))
            have n3_ := Aside0.mk (rM (Kd.R_told (Kd.R_told (Kd.R_old (rA HO176.out) hb) (Kd.R_base ho2)) (Kd.R_base ho3)))
            have n4_ := Aside0.mk (rM (Kd.R_told (Kd.R_told (Kd.R_old (rA HO179.out) hb) (Kd.R_base ho0)) (Kd.R_base ho1)))
            have n5_ := Aside0.mk (rM (Kd.R_told (Kd.R_told (Kd.R_old (rA HO182.out) hb) (Kd.R_base ho0)) (Kd.R_base ho1)))
            have n6_ := Aside0.mk (rM (Kd.R_told (Kd.R_told (Kd.R_old (rA HO185.out) hb) (Kd.R_base ho2)) (Kd.R_base ho3)))
            have n7_ := Aside0.mk (rM (Kd.R_told (Kd.R_told (Kd.R_old (rA HO188.out) hb) (Kd.R_base ho2)) (Kd.R_base ho3)))
            have n8_ := Aside0.mk (rM (Kd.R_told (Kd.R_told (Kd.R_old (rA HO192.out) hb) (Kd.R_base ho0)) (Kd.R_base ho1)))
            have n9_ := Aside0.mk (rM (Kd.R_told (Kd.R_told (Kd.R_old (rA HO195.out) hb) (Kd.R_base ho0)) (Kd.R_base ho1)))
            have n10_ := Aside0.mk (rM (Kd.R_told (Kd.R_told (Kd.R_old (rA HO198.out) hb) (Kd.R_base ho2)) (Kd.R_base ho3)))
            have n11_ := Aside0.mk (rM (Kd.R_told (Kd.R_told (Kd.R_old (rA HO201.out) hb) (Kd.R_base ho2)) (Kd.R_base ho3)))
            have n12_ := Aside0.mk (rM (Kd.R_told (Kd.R_told (Kd.R_old (rA HO205.out) hb) (Kd.R_base ho0)) (Kd.R_base ho1)))
            have n13_ := Aside0.mk (rM (Kd.R_told (Kd.R_told (Kd.R_old (rA HO208.out) hb) (Kd.R_base ho0)) (Kd.R_base ho1)))
            have n14_ := Aside0.mk (rM (Kd.R_told (Kd.R_told (Kd.R_old (rA HO211.out) hb) (Kd.R_base ho2)) (Kd.R_base ho3)))
            have n15_ := Aside0.mk (rM (Kd.R_told (Kd.R_told (Kd.R_old (rA HO214.out) hb) (Kd.R_base ho2)) (Kd.R_base ho3)))
            have n16_ := Aside0.mk (Kd.R_lower (Kd.R_new' (Kd.R_new' (Kd.R_new' (Kd.R_new' (Kd.R_new' (Kd.R_new' (Kd.R_new' (Kd.R_new' ho0 (Kd.R_lt (rA HO167.out))) (Kd.R_lt (rA HO170.out))) (Kd.R_lt (rA HO179.out))) (Kd.R_lt (rA HO182.out))) (Kd.R_lt (rA HO192.out))) (Kd.R_lt (rA HO195.out))) (Kd.R_lt (rA HO205.out))) (Kd.R_lt (rA HO208.out))) (below_size (bS HB.out)))
            have n17_ := Aside0.mk (Kd.R_lower (Kd.R_new' (Kd.R_new' (Kd.R_new' (Kd.R_new' (Kd.R_new' (Kd.R_new' (Kd.R_new' (Kd.R_new' ho1 (Kd.R_lt (rA HO167.out))) (Kd.R_lt (rA HO170.out))) (Kd.R_lt (rA HO179.out))) (Kd.R_lt (rA HO182.out))) (Kd.R_lt (rA HO192.out))) (Kd.R_lt (rA HO195.out))) (Kd.R_lt (rA HO205.out))) (Kd.R_lt (rA HO208.out))) (below_size (bS HB.out)))
            have n18_ := Aside0.mk (Kd.R_lower (Kd.R_new' (Kd.R_new' (Kd.R_new' (Kd.R_new' (Kd.R_new' (Kd.R_new' (Kd.R_new' (Kd.R_new' ho2 (Kd.R_lt (rA HO173.out))) (Kd.R_lt (rA HO176.out))) (Kd.R_lt (rA HO185.out))) (Kd.R_lt (rA HO188.out))) (Kd.R_lt (rA HO198.out))) (Kd.R_lt (rA HO201.out))) (Kd.R_lt (rA HO211.out))) (Kd.R_lt (rA HO214.out))) (below_size (bS HB.out)))
            have n19_ := Aside0.mk (Kd.R_lower (Kd.R_new' (Kd.R_new' (Kd.R_new' (Kd.R_new' (Kd.R_new' (Kd.R_new' (Kd.R_new' (Kd.R_new' ho3 (Kd.R_lt (rA HO173.out))) (Kd.R_lt (rA HO176.out))) (Kd.R_lt (rA HO185.out))) (Kd.R_lt (rA HO188.out))) (Kd.R_lt (rA HO198.out))) (Kd.R_lt (rA HO201.out))) (Kd.R_lt (rA HO211.out))) (Kd.R_lt (rA HO214.out))) (below_size (bS HB.out)))
            have n20_ := Aside0.mk (blk_below (kA BK161.out) hb)
            have n21_ := Aside0.mk (blk_below (kA BK162.out) hb)
            have n22_ := Aside0.mk (blk_below (kA BK202.out) hb)
            have n23_ := Aside0.mk (blk_below (kA BK215.out) hb)
            have n24_ := Aside0.mk (below_step (bS HB.out) hb)
            clear HO167
            clear HO170
            clear HO173
            clear HO176
            clear HO179
            clear HO182
            clear HO185
            clear HO188
            clear HO192
            clear HO195
            clear HO198
            clear HO201
            clear HO205
            clear HO208
            clear HO211
            clear HO214
            clear BK161
            clear BK162
            clear BK202
            clear BK215
            clear HB
            have HO167 := n0_
            have HO170 := n1_
            have HO173 := n2_
            have HO176 := n3_
            have HO179 := n4_
            have HO182 := n5_
            have HO185 := n6_
            have HO188 := n7_
            have HO192 := n8_
            have HO195 := n9_
            have HO198 := n10_
            have HO201 := n11_
            have HO205 := n12_
            have HO208 := n13_
            have HO211 := n14_
            have HO214 := n15_
            have HO219 := n16_
            have HO222 := n17_
            have HO225 := n18_
            have HO228 := n19_
            have BK161 := n20_
            have BK162 := n21_
            have BK202 := n22_
            have BK215 := n23_
            have HB := n24_
            clear n0_ n1_ n2_ n3_ n4_ n5_ n6_ n7_ n8_ n9_ n10_ n11_ n12_ n13_ n14_ n15_ n16_ n17_ n18_ n19_ n20_ n21_ n22_ n23_ n24_
            (try clear hb)
            (try clear hb2)
            (try clear hk)
            (try clear hi)
            (try clear ho0)
            (try clear ho1)
            (try clear ho2)
            (try clear ho3)
            obtain ⟨Ao118, co118, eo118⟩ := Kd.R_slice HO219.out
            (first | subst eo118 | (injection eo118 with f1_ f2_ f3_; have f4_ := f1_.symm; have f5_ := f3_.symm; clear f1_ f2_ f3_; subst f4_; subst f5_))
            obtain ⟨Ao119, co119, eo119⟩ := Kd.R_slice HO222.out
            (first | subst eo119 | (injection eo119 with f1_ f2_ f3_; have f4_ := f1_.symm; have f5_ := f3_.symm; clear f1_ f2_ f3_; subst f4_; subst f5_))
            obtain ⟨Ao120, co120, eo120⟩ := Kd.R_slice HO225.out
            (first | subst eo120 | (injection eo120 with f1_ f2_ f3_; have f4_ := f1_.symm; have f5_ := f3_.symm; clear f1_ f2_ f3_; subst f4_; subst f5_))
            obtain ⟨Ao121, co121, eo121⟩ := Kd.R_slice HO228.out
            (first | subst eo121 | (injection eo121 with f1_ f2_ f3_; have f4_ := f1_.symm; have f5_ := f3_.symm; clear f1_ f2_ f3_; subst f4_; subst f5_))
            refine hK.out _ _ ⟨(blk_cell BK202.out 0).trans rfl, (blk_cell BK202.out 1).trans rfl, (blk_cell BK202.out 2).trans rfl, (blk_cell BK202.out 3).trans rfl, (blk_cell BK161.out 0).trans rfl, (blk_cell BK161.out 1).trans rfl, (blk_cell BK161.out 2).trans rfl, (blk_cell BK161.out 3).trans rfl⟩ (fun hHeld => ?_)
            clear hK K
            refine norm_ (a' := ?_) ?_ ?_
            rotate_left
            · show Act.put _ (some 37) _ = _
              simp only [Act.put, List.setIfInBounds_toArray, List.set_cons_zero, List.set_cons_succ, i64_w, i32_w]
              rfl
            refine one_ (i := 3) (N := some 38) #[true, true, true, true, false] rfl rfl (by kernel_rfl) (by decide) (fun K hK => ?_)
            refine goes_ Try.func61 (by kernel_rfl) rfl #[.agg #[.slice Ao96 t190.length co96, .slice Ao100 t193.length co100, .slice Ao101 t196.length co101, .slice Ao102 t199.length co102], .agg #[.slice Ao118 t217.length co118, .slice Ao119 t220.length co119, .slice Ao120 t223.length co120, .slice Ao121 t226.length co121]] (by rfl) rfl rfl (by (try simp only [List.map_toArray, List.map_cons, List.map_nil]); first | done | rfl | (simp only [List.length_drop, List.length_take]; rfl)) ?_
            with_reducible refine (laws_eqDevice.calls k _ _ t190 _ _ t193 _ _ t196 _ _ t199 _ _ t217 _ _ t220 _ _ t223 _ _ t226 true _ ?side1 ?side2 ?side3 ?side4 ?side5 ?side6 ?side7 ?side8 ?side9 ?side10 ?side11 ?side12 ?side13 ?side14 ?side15 ?side16 A69.out).mono ?_
            (case side1 => repeat (first | exact (Kd.R_reads' HO192.out).2.2 | (with_reducible refine Kd.C_alloc ?_ _) | (with_reducible refine Kd.C_drewN ?_ _) | (with_reducible refine Kd.C_drew ?_)))
            (case side2 => exact (Kd.R_reads' HO192.out).2.1)
            (case side3 => repeat (first | exact (Kd.R_reads' HO195.out).2.2 | (with_reducible refine Kd.C_alloc ?_ _) | (with_reducible refine Kd.C_drewN ?_ _) | (with_reducible refine Kd.C_drew ?_)))
            (case side4 => exact (Kd.R_reads' HO195.out).2.1)
            (case side5 => repeat (first | exact (Kd.R_reads' HO198.out).2.2 | (with_reducible refine Kd.C_alloc ?_ _) | (with_reducible refine Kd.C_drewN ?_ _) | (with_reducible refine Kd.C_drew ?_)))
            (case side6 => exact (Kd.R_reads' HO198.out).2.1)
            (case side7 => repeat (first | exact (Kd.R_reads' HO201.out).2.2 | (with_reducible refine Kd.C_alloc ?_ _) | (with_reducible refine Kd.C_drewN ?_ _) | (with_reducible refine Kd.C_drew ?_)))
            (case side8 => exact (Kd.R_reads' HO201.out).2.1)
            (case side9 => repeat (first | exact (Kd.R_reads' HO219.out).2.2 | (with_reducible refine Kd.C_alloc ?_ _) | (with_reducible refine Kd.C_drewN ?_ _) | (with_reducible refine Kd.C_drew ?_)))
            (case side10 => exact (Kd.R_reads' HO219.out).2.1)
            (case side11 => repeat (first | exact (Kd.R_reads' HO222.out).2.2 | (with_reducible refine Kd.C_alloc ?_ _) | (with_reducible refine Kd.C_drewN ?_ _) | (with_reducible refine Kd.C_drew ?_)))
            (case side12 => exact (Kd.R_reads' HO222.out).2.1)
            (case side13 => repeat (first | exact (Kd.R_reads' HO225.out).2.2 | (with_reducible refine Kd.C_alloc ?_ _) | (with_reducible refine Kd.C_drewN ?_ _) | (with_reducible refine Kd.C_drew ?_)))
            (case side14 => exact (Kd.R_reads' HO225.out).2.1)
            (case side15 => repeat (first | exact (Kd.R_reads' HO228.out).2.2 | (with_reducible refine Kd.C_alloc ?_ _) | (with_reducible refine Kd.C_drewN ?_ _) | (with_reducible refine Kd.C_drew ?_)))
            (case side16 => exact (Kd.R_reads' HO228.out).2.1)
            rintro e w122 ⟨rfl, hb⟩
            refine ⟨_, rfl, ?_⟩
            have n0_ := Aside0.mk (Kd.R_below (rA HO167.out) hb)
            have n1_ := Aside0.mk (Kd.R_below (rA HO170.out) hb)
            have n2_ := Aside0.mk (Kd.R_below (rA HO173.out) hb)
            have n3_ := Aside0.mk (Kd.R_below (rA HO176.out) hb)
            have n4_ := Aside0.mk (Kd.R_below (rA HO179.out) hb)
            have n5_ := Aside0.mk (Kd.R_below (rA HO182.out) hb)
            have n6_ := Aside0.mk (Kd.R_below (rA HO185.out) hb)
            have n7_ := Aside0.mk (Kd.R_below (rA HO188.out) hb)
            have n8_ := Aside0.mk (Kd.R_below (rA HO192.out) hb)
            have n9_ := Aside0.mk (Kd.R_below (rA HO195.out) hb)
            have n10_ := Aside0.mk (Kd.R_below (rA HO198.out) hb)
            have n11_ := Aside0.mk (Kd.R_below (rA HO201.out) hb)
            have n12_ := Aside0.mk (Kd.R_below (rA HO205.out) hb)
            have n13_ := Aside0.mk (Kd.R_below (rA HO208.out) hb)
            have n14_ := Aside0.mk (Kd.R_below (rA HO211.out) hb)
            have n15_ := Aside0.mk (Kd.R_below (rA HO214.out) hb)
            have n16_ := Aside0.mk (Kd.R_below (rA HO219.out) hb)
            have n17_ := Aside0.mk (Kd.R_below (rA HO222.out) hb)
            have n18_ := Aside0.mk (Kd.R_below (rA HO225.out) hb)
            have n19_ := Aside0.mk (Kd.R_below (rA HO228.out) hb)
            have n20_ := Aside0.mk (blk_below (kA BK161.out) hb)
            have n21_ := Aside0.mk (blk_below (kA BK162.out) hb)
            have n22_ := Aside0.mk (blk_below (kA BK202.out) hb)
            have n23_ := Aside0.mk (blk_below (kA BK215.out) hb)
            have n24_ := Aside0.mk (below_step (bS HB.out) hb)
            clear HO167
            clear HO170
            clear HO173
            clear HO176
            clear HO179
            clear HO182
            clear HO185
            clear HO188
            clear HO192
            clear HO195
            clear HO198
            clear HO201
            clear HO205
            clear HO208
            clear HO211
            clear HO214
            clear HO219
            clear HO222
            clear HO225
            clear HO228
            clear BK161
            clear BK162
            clear BK202
            clear BK215
            clear HB
            have HO167 := n0_
            have HO170 := n1_
            have HO173 := n2_
            have HO176 := n3_
            have HO179 := n4_
            have HO182 := n5_
            have HO185 := n6_
            have HO188 := n7_
            have HO192 := n8_
            have HO195 := n9_
            have HO198 := n10_
            have HO201 := n11_
            have HO205 := n12_
            have HO208 := n13_
            have HO211 := n14_
            have HO214 := n15_
            have HO219 := n16_
            have HO222 := n17_
            have HO225 := n18_
            have HO228 := n19_
            have BK161 := n20_
            have BK162 := n21_
            have BK202 := n22_
            have BK215 := n23_
            have HB := n24_
            clear n0_ n1_ n2_ n3_ n4_ n5_ n6_ n7_ n8_ n9_ n10_ n11_ n12_ n13_ n14_ n15_ n16_ n17_ n18_ n19_ n20_ n21_ n22_ n23_ n24_
            (try clear hb)
            (try clear hb2)
            (try clear hk)
            (try clear hi)
            refine hK.out _ _ ⟨(blk_cell BK202.out 0).trans rfl, (blk_cell BK202.out 1).trans rfl, (blk_cell BK202.out 2).trans rfl, (blk_cell BK202.out 3).trans rfl, (blk_cell BK161.out 0).trans rfl, (blk_cell BK161.out 1).trans rfl, (blk_cell BK161.out 2).trans rfl, (blk_cell BK161.out 3).trans rfl⟩ (fun hHeld => ?_)
            clear hK K
            refine norm_ (a' := ?_) ?_ ?_
            rotate_left
            · show Act.put _ (some 38) _ = _
              simp only [Act.put, List.setIfInBounds_toArray, List.set_cons_zero, List.set_cons_succ, i64_w, i32_w]
              rfl
            refine pure_ (i := 4) (N := some 39) (v := ?_) (a' := ?_) #[true, true, true, true, true] rfl rfl (by kernel_rfl) (fun _ _ _ h => h) (Or.inl ⟨by rfl, ?_⟩) ?_ ?_
            rotate_left
            · intro w'
              go_simp
              with_reducible rfl
            rotate_left
            · simp only [Act.put, List.setIfInBounds_toArray, List.set_cons_zero, List.set_cons_succ, i64_w, i32_w]
              rfl
            refine done_ (by kernel_rfl) ?_
            try go_wp2
            have n0_ := Aside0.mk (Kd.R_drew HO167.out)
            have n1_ := Aside0.mk (Kd.R_drew HO170.out)
            have n2_ := Aside0.mk (Kd.R_drew HO173.out)
            have n3_ := Aside0.mk (Kd.R_drew HO176.out)
            have n4_ := Aside0.mk (Kd.R_drew HO179.out)
            have n5_ := Aside0.mk (Kd.R_drew HO182.out)
            have n6_ := Aside0.mk (Kd.R_drew HO185.out)
            have n7_ := Aside0.mk (Kd.R_drew HO188.out)
            have n8_ := Aside0.mk (Kd.R_drew HO192.out)
            have n9_ := Aside0.mk (Kd.R_drew HO195.out)
            have n10_ := Aside0.mk (Kd.R_drew HO198.out)
            have n11_ := Aside0.mk (Kd.R_drew HO201.out)
            have n12_ := Aside0.mk (Kd.R_drew HO205.out)
            have n13_ := Aside0.mk (Kd.R_drew HO208.out)
            have n14_ := Aside0.mk (Kd.R_drew HO211.out)
            have n15_ := Aside0.mk (Kd.R_drew HO214.out)
            have n16_ := Aside0.mk (Kd.R_drew HO219.out)
            have n17_ := Aside0.mk (Kd.R_drew HO222.out)
            have n18_ := Aside0.mk (Kd.R_drew HO225.out)
            have n19_ := Aside0.mk (Kd.R_drew HO228.out)
            have n20_ := Aside0.mk (blk_drew BK161.out)
            have n21_ := Aside0.mk (blk_drew BK162.out)
            have n22_ := Aside0.mk (blk_drew BK202.out)
            have n23_ := Aside0.mk (blk_drew BK215.out)
            have n24_ := Aside0.mk (below_drew1 HB.out)
            clear HO167
            clear HO170
            clear HO173
            clear HO176
            clear HO179
            clear HO182
            clear HO185
            clear HO188
            clear HO192
            clear HO195
            clear HO198
            clear HO201
            clear HO205
            clear HO208
            clear HO211
            clear HO214
            clear HO219
            clear HO222
            clear HO225
            clear HO228
            clear BK161
            clear BK162
            clear BK202
            clear BK215
            clear HB
            have HO167 := n0_
            have HO170 := n1_
            have HO173 := n2_
            have HO176 := n3_
            have HO179 := n4_
            have HO182 := n5_
            have HO185 := n6_
            have HO188 := n7_
            have HO192 := n8_
            have HO195 := n9_
            have HO198 := n10_
            have HO201 := n11_
            have HO205 := n12_
            have HO208 := n13_
            have HO211 := n14_
            have HO214 := n15_
            have HO219 := n16_
            have HO222 := n17_
            have HO225 := n18_
            have HO228 := n19_
            have BK161 := n20_
            have BK162 := n21_
            have BK202 := n22_
            have BK215 := n23_
            have HB := n24_
            clear n0_ n1_ n2_ n3_ n4_ n5_ n6_ n7_ n8_ n9_ n10_ n11_ n12_ n13_ n14_ n15_ n16_ n17_ n18_ n19_ n20_ n21_ n22_ n23_ n24_
            refine start_ (n := 5) (S := fun w' => w'.cell? ⟨gb215, 0, none⟩ = some (.slice Ao106 t203.length co106) ∧ w'.cell? ⟨gb215, 1, none⟩ = some (.slice Ao111 t206.length co111) ∧ w'.cell? ⟨gb215, 2, none⟩ = some (.slice Ao112 t209.length co112) ∧ w'.cell? ⟨gb215, 3, none⟩ = some (.slice Ao113 t212.length co113) ∧ w'.cell? ⟨gb162, 0, none⟩ = some (.slice A1_0 l1_0.length c1_0) ∧ w'.cell? ⟨gb162, 1, none⟩ = some (.slice A1_1 l1_1.length c1_1) ∧ w'.cell? ⟨gb162, 2, none⟩ = some (.slice A1_2 l1_2.length c1_2) ∧ w'.cell? ⟨gb162, 3, none⟩ = some (.slice A1_3 l1_3.length c1_3)) (ds := []) #[false, false, false, false, false] (by kernel_rfl) rfl rfl ⟨(blk_cell BK215.out 0).trans rfl, (blk_cell BK215.out 1).trans rfl, (blk_cell BK215.out 2).trans rfl, (blk_cell BK215.out 3).trans rfl, (blk_cell BK162.out 0).trans rfl, (blk_cell BK162.out 1).trans rfl, (blk_cell BK162.out 2).trans rfl, (blk_cell BK162.out 3).trans rfl⟩ (fun hHeld => ?_)
            generalize w122.drew = w123 at HO167 HO170 HO173 HO176 HO179 HO182 HO185 HO188 HO192 HO195 HO198 HO201 HO205 HO208 HO211 HO214 HO219 HO222 HO225 HO228 BK161 BK162 BK202 BK215 HB hHeld ⊢
            refine take_ (i := 0) (N := some 40) (v := ?_) (a' := ?_) #[true, false, false, false, false] rfl rfl (by kernel_rfl) (fun _ _ _ h => h) (Or.inl ⟨by rfl, ?_⟩) hHeld ?_ ?_
            rotate_left
            · rintro w' ⟨s0, s1, s2, s3, s4, s5, s6, s7⟩
              go_simp
              with_reducible rfl
            rotate_left
            · simp only [Act.put, List.setIfInBounds_toArray, List.set_cons_zero, List.set_cons_succ, i64_w, i32_w]
              rfl
            refine take_ (i := 1) (N := some 41) (v := ?_) (a' := ?_) #[true, true, false, false, false] rfl rfl (by kernel_rfl) (fun _ _ _ h => h) (Or.inl ⟨by rfl, ?_⟩) hHeld ?_ ?_
            rotate_left
            · rintro w' ⟨s0, s1, s2, s3, s4, s5, s6, s7⟩
              go_simp
              with_reducible rfl
            rotate_left
            · simp only [Act.put, List.setIfInBounds_toArray, List.set_cons_zero, List.set_cons_succ, i64_w, i32_w]
              rfl
            refine one_ (i := 2) (N := some 42) #[true, true, true, false, false] rfl rfl (by kernel_rfl) (by decide) (fun K hK => ?_)
            refine goes_ Try.func69 (by kernel_rfl) rfl #[.agg #[.slice A1_0 l1_0.length c1_0, .slice A1_1 l1_1.length c1_1, .slice A1_2 l1_2.length c1_2, .slice A1_3 l1_3.length c1_3]] (by rfl) rfl rfl (by (try simp only [List.map_toArray, List.map_cons, List.map_nil]); first | done | rfl | (simp only [List.length_drop, List.length_take]; rfl)) ?_
            with_reducible refine (laws_toDevice.calls k _ _ l1_0 _ _ l1_1 _ _ l1_2 _ _ l1_3 t230 t233 t236 t239 _ ?side1 ?side2 ?side3 ?side4 ?side5 ?side6 ?side7 ?side8 A71.out).mono ?_
            (case side1 => exact cB HR1_0.out HB.out)
            (case side2 => exact HC1_0.out)
            (case side3 => exact cB HR1_1.out HB.out)
            (case side4 => exact HC1_1.out)
            (case side5 => exact cB HR1_2.out HB.out)
            (case side6 => exact HC1_2.out)
            (case side7 => exact cB HR1_3.out HB.out)
            (case side8 => exact HC1_3.out)
            rintro e w124 ⟨v231, v234, v237, v240, rfl, ho0, ho1, ho2, ho3, hb⟩
            refine ⟨_, rfl, ?_⟩
            have n0_ := Aside0.mk (rM (Kd.R_told (Kd.R_told (Kd.R_old (rA HO167.out) hb) (Kd.R_base ho0)) (Kd.R_base ho1)))
            have n1_ := Aside0.mk (rM (Kd.R_told (Kd.R_told (Kd.R_old (rA HO170.out) hb) (Kd.R_base ho0)) (Kd.R_base ho1)))
            have n2_ := Aside0.mk (rM (Kd.R_told (Kd.R_told (Kd.R_old (rA HO173.out) hb) (Kd.R_base ho2)) (Kd.R_base ho3)))
            have n3_ := Aside0.mk (rM (Kd.R_told (Kd.R_told (Kd.R_old (rA HO176.out) hb) (Kd.R_base ho2)) (Kd.R_base ho3)))
            have n4_ := Aside0.mk (rM (Kd.R_told (Kd.R_told (Kd.R_old (rA HO179.out) hb) (Kd.R_base ho0)) (Kd.R_base ho1)))
            have n5_ := Aside0.mk (rM (Kd.R_told (Kd.R_told (Kd.R_old (rA HO182.out) hb) (Kd.R_base ho0)) (Kd.R_base ho1)))
            have n6_ := Aside0.mk (rM (Kd.R_told (Kd.R_told (Kd.R_old (rA HO185.out) hb) (Kd.R_base ho2)) (Kd.R_base ho3)))
            have n7_ := Aside0.mk (rM (Kd.R_told (Kd.R_told (Kd.R_old (rA HO188.out) hb) (Kd.R_base ho2)) (Kd.R_base ho3)))
            have n8_ := Aside0.mk (rM (Kd.R_told (Kd.R_told (Kd.R_old (rA HO192.out) hb) (Kd.R_base ho0)) (Kd.R_base ho1)))
            have n9_ := Aside0.mk (rM (Kd.R_told (Kd.R_told (Kd.R_old (rA HO195.out) hb) (Kd.R_base ho0)) (Kd.R_base ho1)))
            have n10_ := Aside0.mk (rM (Kd.R_told (Kd.R_told (Kd.R_old (rA HO198.out) hb) (Kd.R_base ho2)) (Kd.R_base ho3)))
            have n11_ := Aside0.mk (rM (Kd.R_told (Kd.R_told (Kd.R_old (rA HO201.out) hb) (Kd.R_base ho2)) (Kd.R_base ho3)))
            have n12_ := Aside0.mk (rM (Kd.R_told (Kd.R_told (Kd.R_old (rA HO205.out) hb) (Kd.R_base ho0)) (Kd.R_base ho1)))
            have n13_ := Aside0.mk (rM (Kd.R_told (Kd.R_told (Kd.R_old (rA HO208.out) hb) (Kd.R_base ho0)) (Kd.R_base ho1)))
            have n14_ := Aside0.mk (rM (Kd.R_told (Kd.R_told (Kd.R_old (rA HO211.out) hb) (Kd.R_base ho2)) (Kd.R_base ho3)))
            have n15_ := Aside0.mk (rM (Kd.R_told (Kd.R_told (Kd.R_old (rA HO214.out) hb) (Kd.R_base ho2)) (Kd.R_base ho3)))
            have n16_ := Aside0.mk (rM (Kd.R_told (Kd.R_told (Kd.R_old (rA HO219.out) hb) (Kd.R_base ho0)) (Kd.R_base ho1)))
            have n17_ := Aside0.mk (rM (Kd.R_told (Kd.R_told (Kd.R_old (rA HO222.out) hb) (Kd.R_base ho0)) (Kd.R_base ho1)))
            have n18_ := Aside0.mk (rM (Kd.R_told (Kd.R_told (Kd.R_old (rA HO225.out) hb) (Kd.R_base ho2)) (Kd.R_base ho3)))
            have n19_ := Aside0.mk (rM (Kd.R_told (Kd.R_told (Kd.R_old (rA HO228.out) hb) (Kd.R_base ho2)) (Kd.R_base ho3)))
            have n20_ := Aside0.mk (Kd.R_lower (Kd.R_new' (Kd.R_new' (Kd.R_new' (Kd.R_new' (Kd.R_new' (Kd.R_new' (Kd.R_new' (Kd.R_new' (Kd.R_new' (Kd.R_new' ho0 (Kd.R_lt (rA HO167.out))) (Kd.R_lt (rA HO170.out))) (Kd.R_lt (rA HO179.out))) (Kd.R_lt (rA HO182.out))) (Kd.R_lt (rA HO192.out))) (Kd.R_lt (rA HO195.out))) (Kd.R_lt (rA HO205.out))) (Kd.R_lt (rA HO208.out))) (Kd.R_lt (rA HO219.out))) (Kd.R_lt (rA HO222.out))) (below_size (bS HB.out)))
            have n21_ := Aside0.mk (Kd.R_lower (Kd.R_new' (Kd.R_new' (Kd.R_new' (Kd.R_new' (Kd.R_new' (Kd.R_new' (Kd.R_new' (Kd.R_new' (Kd.R_new' (Kd.R_new' ho1 (Kd.R_lt (rA HO167.out))) (Kd.R_lt (rA HO170.out))) (Kd.R_lt (rA HO179.out))) (Kd.R_lt (rA HO182.out))) (Kd.R_lt (rA HO192.out))) (Kd.R_lt (rA HO195.out))) (Kd.R_lt (rA HO205.out))) (Kd.R_lt (rA HO208.out))) (Kd.R_lt (rA HO219.out))) (Kd.R_lt (rA HO222.out))) (below_size (bS HB.out)))
            have n22_ := Aside0.mk (Kd.R_lower (Kd.R_new' (Kd.R_new' (Kd.R_new' (Kd.R_new' (Kd.R_new' (Kd.R_new' (Kd.R_new' (Kd.R_new' (Kd.R_new' (Kd.R_new' ho2 (Kd.R_lt (rA HO173.out))) (Kd.R_lt (rA HO176.out))) (Kd.R_lt (rA HO185.out))) (Kd.R_lt (rA HO188.out))) (Kd.R_lt (rA HO198.out))) (Kd.R_lt (rA HO201.out))) (Kd.R_lt (rA HO211.out))) (Kd.R_lt (rA HO214.out))) (Kd.R_lt (rA HO225.out))) (Kd.R_lt (rA HO228.out))) (below_size (bS HB.out)))
            have n23_ := Aside0.mk (Kd.R_lower (Kd.R_new' (Kd.R_new' (Kd.R_new' (Kd.R_new' (Kd.R_new' (Kd.R_new' (Kd.R_new' (Kd.R_new' (Kd.R_new' (Kd.R_new' ho3 (Kd.R_lt (rA HO173.out))) (Kd.R_lt (rA HO176.out))) (Kd.R_lt (rA HO185.out))) (Kd.R_lt (rA HO188.out))) (Kd.R_lt (rA HO198.out))) (Kd.R_lt (rA HO201.out))) (Kd.R_lt (rA HO211.out))) (Kd.R_lt (rA HO214.out))) (Kd.R_lt (rA HO225.out))) (Kd.R_lt (rA HO228.out))) (below_size (bS HB.out)))
            have n24_ := Aside0.mk (blk_below (kA BK161.out) hb)
            have n25_ := Aside0.mk (blk_below (kA BK162.out) hb)
            have n26_ := Aside0.mk (blk_below (kA BK202.out) hb)
            have n27_ := Aside0.mk (blk_below (kA BK215.out) hb)
            have n28_ := Aside0.mk (below_step (bS HB.out) hb)
            clear HO167
            clear HO170
            clear HO173
            clear HO176
            clear HO179
            clear HO182
            clear HO185
            clear HO188
            clear HO192
            clear HO195
            clear HO198
            clear HO201
            clear HO205
            clear HO208
            clear HO211
            clear HO214
            clear HO219
            clear HO222
            clear HO225
            clear HO228
            clear BK161
            clear BK162
            clear BK202
            clear BK215
            clear HB
            have HO167 := n0_
            have HO170 := n1_
            have HO173 := n2_
            have HO176 := n3_
            have HO179 := n4_
            have HO182 := n5_
            have HO185 := n6_
            have HO188 := n7_
            have HO192 := n8_
            have HO195 := n9_
            have HO198 := n10_
            have HO201 := n11_
            have HO205 := n12_
            have HO208 := n13_
            have HO211 := n14_
            have HO214 := n15_
            have HO219 := n16_
            have HO222 := n17_
            have HO225 := n18_
            have HO228 := n19_
            have HO232 := n20_
            have HO235 := n21_
            have HO238 := n22_
            have HO241 := n23_
            have BK161 := n24_
            have BK162 := n25_
            have BK202 := n26_
            have BK215 := n27_
            have HB := n28_
            clear n0_ n1_ n2_ n3_ n4_ n5_ n6_ n7_ n8_ n9_ n10_ n11_ n12_ n13_ n14_ n15_ n16_ n17_ n18_ n19_ n20_ n21_ n22_ n23_ n24_ n25_ n26_ n27_ n28_
            (try clear hb)
            (try clear hb2)
            (try clear hk)
            (try clear hi)
            (try clear ho0)
            (try clear ho1)
            (try clear ho2)
            (try clear ho3)
            obtain ⟨Ao125, co125, eo125⟩ := Kd.R_slice HO232.out
            (first | subst eo125 | (injection eo125 with f1_ f2_ f3_; have f4_ := f1_.symm; have f5_ := f3_.symm; clear f1_ f2_ f3_; subst f4_; subst f5_))
            obtain ⟨Ao126, co126, eo126⟩ := Kd.R_slice HO235.out
            (first | subst eo126 | (injection eo126 with f1_ f2_ f3_; have f4_ := f1_.symm; have f5_ := f3_.symm; clear f1_ f2_ f3_; subst f4_; subst f5_))
            obtain ⟨Ao127, co127, eo127⟩ := Kd.R_slice HO238.out
            (first | subst eo127 | (injection eo127 with f1_ f2_ f3_; have f4_ := f1_.symm; have f5_ := f3_.symm; clear f1_ f2_ f3_; subst f4_; subst f5_))
            obtain ⟨Ao128, co128, eo128⟩ := Kd.R_slice HO241.out
            (first | subst eo128 | (injection eo128 with f1_ f2_ f3_; have f4_ := f1_.symm; have f5_ := f3_.symm; clear f1_ f2_ f3_; subst f4_; subst f5_))
            refine hK.out _ _ ⟨(blk_cell BK215.out 0).trans rfl, (blk_cell BK215.out 1).trans rfl, (blk_cell BK215.out 2).trans rfl, (blk_cell BK215.out 3).trans rfl, (blk_cell BK162.out 0).trans rfl, (blk_cell BK162.out 1).trans rfl, (blk_cell BK162.out 2).trans rfl, (blk_cell BK162.out 3).trans rfl⟩ (fun hHeld => ?_)
            clear hK K
            refine norm_ (a' := ?_) ?_ ?_
            rotate_left
            · show Act.put _ (some 42) _ = _
              simp only [Act.put, List.setIfInBounds_toArray, List.set_cons_zero, List.set_cons_succ, i64_w, i32_w]
              rfl
            refine one_ (i := 3) (N := some 43) #[true, true, true, true, false] rfl rfl (by kernel_rfl) (by decide) (fun K hK => ?_)
            refine goes_ Try.func61 (by kernel_rfl) rfl #[.agg #[.slice Ao106 t203.length co106, .slice Ao111 t206.length co111, .slice Ao112 t209.length co112, .slice Ao113 t212.length co113], .agg #[.slice Ao125 t230.length co125, .slice Ao126 t233.length co126, .slice Ao127 t236.length co127, .slice Ao128 t239.length co128]] (by rfl) rfl rfl (by (try simp only [List.map_toArray, List.map_cons, List.map_nil]); first | done | rfl | (simp only [List.length_drop, List.length_take]; rfl)) ?_
            with_reducible refine (laws_eqDevice.calls k _ _ t203 _ _ t206 _ _ t209 _ _ t212 _ _ t230 _ _ t233 _ _ t236 _ _ t239 true _ ?side1 ?side2 ?side3 ?side4 ?side5 ?side6 ?side7 ?side8 ?side9 ?side10 ?side11 ?side12 ?side13 ?side14 ?side15 ?side16 A72.out).mono ?_
            (case side1 => repeat (first | exact (Kd.R_reads' HO205.out).2.2 | (with_reducible refine Kd.C_alloc ?_ _) | (with_reducible refine Kd.C_drewN ?_ _) | (with_reducible refine Kd.C_drew ?_)))
            (case side2 => exact (Kd.R_reads' HO205.out).2.1)
            (case side3 => repeat (first | exact (Kd.R_reads' HO208.out).2.2 | (with_reducible refine Kd.C_alloc ?_ _) | (with_reducible refine Kd.C_drewN ?_ _) | (with_reducible refine Kd.C_drew ?_)))
            (case side4 => exact (Kd.R_reads' HO208.out).2.1)
            (case side5 => repeat (first | exact (Kd.R_reads' HO211.out).2.2 | (with_reducible refine Kd.C_alloc ?_ _) | (with_reducible refine Kd.C_drewN ?_ _) | (with_reducible refine Kd.C_drew ?_)))
            (case side6 => exact (Kd.R_reads' HO211.out).2.1)
            (case side7 => repeat (first | exact (Kd.R_reads' HO214.out).2.2 | (with_reducible refine Kd.C_alloc ?_ _) | (with_reducible refine Kd.C_drewN ?_ _) | (with_reducible refine Kd.C_drew ?_)))
            (case side8 => exact (Kd.R_reads' HO214.out).2.1)
            (case side9 => repeat (first | exact (Kd.R_reads' HO232.out).2.2 | (with_reducible refine Kd.C_alloc ?_ _) | (with_reducible refine Kd.C_drewN ?_ _) | (with_reducible refine Kd.C_drew ?_)))
            (case side10 => exact (Kd.R_reads' HO232.out).2.1)
            (case side11 => repeat (first | exact (Kd.R_reads' HO235.out).2.2 | (with_reducible refine Kd.C_alloc ?_ _) | (with_reducible refine Kd.C_drewN ?_ _) | (with_reducible refine Kd.C_drew ?_)))
            (case side12 => exact (Kd.R_reads' HO235.out).2.1)
            (case side13 => repeat (first | exact (Kd.R_reads' HO238.out).2.2 | (with_reducible refine Kd.C_alloc ?_ _) | (with_reducible refine Kd.C_drewN ?_ _) | (with_reducible refine Kd.C_drew ?_)))
            (case side14 => exact (Kd.R_reads' HO238.out).2.1)
            (case side15 => repeat (first | exact (Kd.R_reads' HO241.out).2.2 | (with_reducible refine Kd.C_alloc ?_ _) | (with_reducible refine Kd.C_drewN ?_ _) | (with_reducible refine Kd.C_drew ?_)))
            (case side16 => exact (Kd.R_reads' HO241.out).2.1)
            rintro e w129 ⟨rfl, hb⟩
            refine ⟨_, rfl, ?_⟩
            have n0_ := Aside0.mk (Kd.R_below (rA HO167.out) hb)
            have n1_ := Aside0.mk (Kd.R_below (rA HO170.out) hb)
            have n2_ := Aside0.mk (Kd.R_below (rA HO173.out) hb)
            have n3_ := Aside0.mk (Kd.R_below (rA HO176.out) hb)
            have n4_ := Aside0.mk (Kd.R_below (rA HO179.out) hb)
            have n5_ := Aside0.mk (Kd.R_below (rA HO182.out) hb)
            have n6_ := Aside0.mk (Kd.R_below (rA HO185.out) hb)
            have n7_ := Aside0.mk (Kd.R_below (rA HO188.out) hb)
            have n8_ := Aside0.mk (Kd.R_below (rA HO192.out) hb)
            have n9_ := Aside0.mk (Kd.R_below (rA HO195.out) hb)
            have n10_ := Aside0.mk (Kd.R_below (rA HO198.out) hb)
            have n11_ := Aside0.mk (Kd.R_below (rA HO201.out) hb)
            have n12_ := Aside0.mk (Kd.R_below (rA HO205.out) hb)
            have n13_ := Aside0.mk (Kd.R_below (rA HO208.out) hb)
            have n14_ := Aside0.mk (Kd.R_below (rA HO211.out) hb)
            have n15_ := Aside0.mk (Kd.R_below (rA HO214.out) hb)
            have n16_ := Aside0.mk (Kd.R_below (rA HO219.out) hb)
            have n17_ := Aside0.mk (Kd.R_below (rA HO222.out) hb)
            have n18_ := Aside0.mk (Kd.R_below (rA HO225.out) hb)
            have n19_ := Aside0.mk (Kd.R_below (rA HO228.out) hb)
            have n20_ := Aside0.mk (Kd.R_below (rA HO232.out) hb)
            have n21_ := Aside0.mk (Kd.R_below (rA HO235.out) hb)
            have n22_ := Aside0.mk (Kd.R_below (rA HO238.out) hb)
            have n23_ := Aside0.mk (Kd.R_below (rA HO241.out) hb)
            have n24_ := Aside0.mk (blk_below (kA BK161.out) hb)
            have n25_ := Aside0.mk (blk_below (kA BK162.out) hb)
            have n26_ := Aside0.mk (blk_below (kA BK202.out) hb)
            have n27_ := Aside0.mk (blk_below (kA BK215.out) hb)
            have n28_ := Aside0.mk (below_step (bS HB.out) hb)
            clear HO167
            clear HO170
            clear HO173
            clear HO176
            clear HO179
            clear HO182
            clear HO185
            clear HO188
            clear HO192
            clear HO195
            clear HO198
            clear HO201
            clear HO205
            clear HO208
            clear HO211
            clear HO214
            clear HO219
            clear HO222
            clear HO225
            clear HO228
            clear HO232
            clear HO235
            clear HO238
            clear HO241
            clear BK161
            clear BK162
            clear BK202
            clear BK215
            clear HB
            have HO167 := n0_
            have HO170 := n1_
            have HO173 := n2_
            have HO176 := n3_
            have HO179 := n4_
            have HO182 := n5_
            have HO185 := n6_
            have HO188 := n7_
            have HO192 := n8_
            have HO195 := n9_
            have HO198 := n10_
            have HO201 := n11_
            have HO205 := n12_
            have HO208 := n13_
            have HO211 := n14_
            have HO214 := n15_
            have HO219 := n16_
            have HO222 := n17_
            have HO225 := n18_
            have HO228 := n19_
            have HO232 := n20_
            have HO235 := n21_
            have HO238 := n22_
            have HO241 := n23_
            have BK161 := n24_
            have BK162 := n25_
            have BK202 := n26_
            have BK215 := n27_
            have HB := n28_
            clear n0_ n1_ n2_ n3_ n4_ n5_ n6_ n7_ n8_ n9_ n10_ n11_ n12_ n13_ n14_ n15_ n16_ n17_ n18_ n19_ n20_ n21_ n22_ n23_ n24_ n25_ n26_ n27_ n28_
            (try clear hb)
            (try clear hb2)
            (try clear hk)
            (try clear hi)
            refine hK.out _ _ ⟨(blk_cell BK215.out 0).trans rfl, (blk_cell BK215.out 1).trans rfl, (blk_cell BK215.out 2).trans rfl, (blk_cell BK215.out 3).trans rfl, (blk_cell BK162.out 0).trans rfl, (blk_cell BK162.out 1).trans rfl, (blk_cell BK162.out 2).trans rfl, (blk_cell BK162.out 3).trans rfl⟩ (fun hHeld => ?_)
            clear hK K
            refine norm_ (a' := ?_) ?_ ?_
            rotate_left
            · show Act.put _ (some 43) _ = _
              simp only [Act.put, List.setIfInBounds_toArray, List.set_cons_zero, List.set_cons_succ, i64_w, i32_w]
              rfl
            refine pure_ (i := 4) (N := some 44) (v := ?_) (a' := ?_) #[true, true, true, true, true] rfl rfl (by kernel_rfl) (fun _ _ _ h => h) (Or.inl ⟨by rfl, ?_⟩) ?_ ?_
            rotate_left
            · intro w'
              go_simp
              with_reducible rfl
            rotate_left
            · simp only [Act.put, List.setIfInBounds_toArray, List.set_cons_zero, List.set_cons_succ, i64_w, i32_w]
              rfl
            refine done_ (by kernel_rfl) ?_
            try go_wp2
            go_ret
            exact ⟨by first | rfl | (simp [errW_none, errW_some] <;> rfl) | (simp [*, errW_none, errW_some] <;> rfl), by repeat (first | (with_reducible first | exact HB.out | apply below_alloc | apply pw_below_drewN | apply below_drew1 | refine below_set ?_ GE161.out | refine below_set ?_ GE162.out | refine below_set ?_ GE202.out | refine below_set ?_ GE215.out) | exact HB.out)⟩
          · replace c73 := Bool.eq_false_iff.mpr c73
            subst c73
            have H1 : (some false) = some r := by rw [if_neg (show ¬ (false = true) by decide)] at H; exact H
            clear H
            have H := H1
            clear H1
            obtain rfl := Option.some.inj H
            go_enter Try.func16, Try.ntmps16
            try go_wp2_with (first | ((with_reducible refine gate_dst (N := 2) rfl ?_); refine box_event ?hg (N := 2) ?hd (cs := #[.slice A0_0 l0_0.length c0_0, .slice A0_1 l0_1.length c0_1, .slice A0_2 l0_2.length c0_2, .slice A0_3 l0_3.length c0_3]) (t := 81) ?hr ?_; (case hd => rfl); (case hg => rfl); (case hr => first | (go_simp; done) | (go_simp; rfl)); intro gb161 hg w130 hbox hb; have n0_ := Aside0.mk (below_step (bS HB.out) hb); have n1_ := Aside0.mk (hbox); have n2_ := Aside0.mk ((by rw [hg]; exact (below_size (bS HB.out)) : w.heap.size ≤ gb161)); have n3_ := n2_; clear HB; have HB := n0_; have BK161 := n1_; have GW161 := n2_; have GE161 := n3_; clear n0_ n1_ n2_ n3_; clear hb hbox hg) | ((with_reducible refine gate_dst (N := 3) rfl ?_); refine box_event ?hg (N := 3) ?hd (cs := #[.slice A1_0 l1_0.length c1_0, .slice A1_1 l1_1.length c1_1, .slice A1_2 l1_2.length c1_2, .slice A1_3 l1_3.length c1_3]) (t := 81) ?hr ?_; (case hd => rfl); (case hg => rfl); (case hr => first | (go_simp; done) | (go_simp; rfl)); intro gb162 hg w131 hbox hb; have n0_ := Aside0.mk (blk_below (kA BK161.out) hb); have n1_ := Aside0.mk (below_step (bS HB.out) hb); have n2_ := Aside0.mk (hbox); have n3_ := Aside0.mk ((by rw [hg]; exact (below_size (bS HB.out)) : w.heap.size ≤ gb162)); have n4_ := n3_; have n5_ := Aside0.mk ((by rw [hg]; exact Nat.ne_of_lt (blk_lt (g := gb161) (o := .cells #[.slice A0_0 l0_0.length c0_0, .slice A0_1 l0_1.length c0_1, .slice A0_2 l0_2.length c0_2, .slice A0_3 l0_3.length c0_3] 81 (0, 0)) (kA BK161.out)) : gb161 ≠ gb162)); have n6_ := Aside0.mk ((by rw [hg]; exact Nat.ne_of_gt (blk_lt (g := gb161) (o := .cells #[.slice A0_0 l0_0.length c0_0, .slice A0_1 l0_1.length c0_1, .slice A0_2 l0_2.length c0_2, .slice A0_3 l0_3.length c0_3] 81 (0, 0)) (kA BK161.out)) : gb162 ≠ gb161)); clear BK161 HB; have BK161 := n0_; have HB := n1_; have BK162 := n2_; have GW162 := n3_; have GE162 := n4_; have NB161_162 := n5_; have NB162_161 := n6_; clear n0_ n1_ n2_ n3_ n4_ n5_ n6_; clear hb hbox hg; have hnb132 := NB161_162.out; have hnc132 := NB162_161.out; obtain ⟨hcz133_0, hfz133_0, hcz133_1, hfz133_1, hcz133_2, hfz133_2, hcz133_3, hfz133_3⟩ := bk4 BK161.out) | ((with_reducible refine gate_callee (f := 67) rfl ?_); refine gL (some 12) rfl rfl Try.func67 (by kernel_rfl) rfl #[.agg #[.slice A0_0 l0_0.length c0_0, .slice A0_1 l0_1.length c0_1, .slice A0_2 l0_2.length c0_2, .slice A0_3 l0_3.length c0_3], .int .i64 1048576] rfl ?_; (with_reducible refine (laws_szDevice.calls _ _ l0_0 _ _ l0_1 _ _ l0_2 _ _ l0_3 1048576 t163 _ ?side1 ?side2 ?side3 ?side4 ?side5 ?side6 ?side7 ?side8 A3.out).mono ?_); (case side1 => exact cB HR0_0.out HB.out); (case side2 => exact HC0_0.out); (case side3 => exact cB HR0_1.out HB.out); (case side4 => exact HC0_1.out); (case side5 => exact cB HR0_2.out HB.out); (case side6 => exact HC0_2.out); (case side7 => exact cB HR0_3.out HB.out); (case side8 => exact HC0_3.out); rintro e w134 ⟨rfl, hb⟩; refine ⟨_, rfl, ?_⟩; have n0_ := Aside0.mk (blk_below (kA BK161.out) hb); have n1_ := Aside0.mk (blk_below (kA BK162.out) hb); have n2_ := Aside0.mk (below_step (bS HB.out) hb); clear BK161 BK162 HB; have BK161 := n0_; have BK162 := n1_; have HB := n2_; clear n0_ n1_ n2_; (try clear hb); (try clear hk); (try clear hi); obtain ⟨hcz135_0, hfz135_0, hcz135_1, hfz135_1, hcz135_2, hfz135_2, hcz135_3, hfz135_3⟩ := bk4 BK162.out) | ((with_reducible refine gate_callee (f := 67) rfl ?_); refine gL (some 17) rfl rfl Try.func67 (by kernel_rfl) rfl #[.agg #[.slice A1_0 l1_0.length c1_0, .slice A1_1 l1_1.length c1_1, .slice A1_2 l1_2.length c1_2, .slice A1_3 l1_3.length c1_3], .int .i64 t163] rfl ?_; (with_reducible refine (laws_szDevice.calls _ _ l1_0 _ _ l1_1 _ _ l1_2 _ _ l1_3 t163 t164 _ ?side1 ?side2 ?side3 ?side4 ?side5 ?side6 ?side7 ?side8 A10.out).mono ?_); (case side1 => exact cB HR1_0.out HB.out); (case side2 => exact HC1_0.out); (case side3 => exact cB HR1_1.out HB.out); (case side4 => exact HC1_1.out); (case side5 => exact cB HR1_2.out HB.out); (case side6 => exact HC1_2.out); (case side7 => exact cB HR1_3.out HB.out); (case side8 => exact HC1_3.out); rintro e w136 ⟨rfl, hb⟩; refine ⟨_, rfl, ?_⟩; have n0_ := Aside0.mk (blk_below (kA BK161.out) hb); have n1_ := Aside0.mk (blk_below (kA BK162.out) hb); have n2_ := Aside0.mk (below_step (bS HB.out) hb); clear BK161 BK162 HB; have BK161 := n0_; have BK162 := n1_; have HB := n2_; clear n0_ n1_ n2_; (try clear hb); (try clear hk); (try clear hi)))
            have n0_ := Aside0.mk (blk_drew BK161.out)
            have n1_ := Aside0.mk (blk_drew BK162.out)
            have n2_ := Aside0.mk (below_drew1 HB.out)
            clear BK161
            clear BK162
            clear HB
            have BK161 := n0_
            have BK162 := n1_
            have HB := n2_
            clear n0_ n1_ n2_
            refine start_ (n := 6) (S := fun w' => w'.cell? ⟨gb161, 0, none⟩ = some (.slice A0_0 l0_0.length c0_0) ∧ w'.cell? ⟨gb161, 1, none⟩ = some (.slice A0_1 l0_1.length c0_1) ∧ w'.cell? ⟨gb161, 2, none⟩ = some (.slice A0_2 l0_2.length c0_2) ∧ w'.cell? ⟨gb161, 3, none⟩ = some (.slice A0_3 l0_3.length c0_3) ∧ w'.cell? ⟨gb162, 0, none⟩ = some (.slice A1_0 l1_0.length c1_0) ∧ w'.cell? ⟨gb162, 1, none⟩ = some (.slice A1_1 l1_1.length c1_1) ∧ w'.cell? ⟨gb162, 2, none⟩ = some (.slice A1_2 l1_2.length c1_2) ∧ w'.cell? ⟨gb162, 3, none⟩ = some (.slice A1_3 l1_3.length c1_3)) (ds := []) #[false, false, false, false, false, false] (by kernel_rfl) rfl rfl ⟨(blk_cell BK161.out 0).trans rfl, (blk_cell BK161.out 1).trans rfl, (blk_cell BK161.out 2).trans rfl, (blk_cell BK161.out 3).trans rfl, (blk_cell BK162.out 0).trans rfl, (blk_cell BK162.out 1).trans rfl, (blk_cell BK162.out 2).trans rfl, (blk_cell BK162.out 3).trans rfl⟩ (fun hHeld => ?_)
            generalize w136.drew = w137 at BK161 BK162 HB hHeld ⊢
            refine take_ (i := 0) (N := some 20) (v := ?_) (a' := ?_) #[true, false, false, false, false, false] rfl rfl (by kernel_rfl) (fun _ _ _ h => h) (Or.inl ⟨by rfl, ?_⟩) hHeld ?_ ?_
            rotate_left
            · rintro w' ⟨s0, s1, s2, s3, s4, s5, s6, s7⟩
              go_simp
              with_reducible rfl
            rotate_left
            · simp only [Act.put, List.setIfInBounds_toArray, List.set_cons_zero, List.set_cons_succ, i64_w, i32_w]
              rfl
            refine take_ (i := 2) (N := some 22) (v := ?_) (a' := ?_) #[true, false, true, false, false, false] rfl rfl (by kernel_rfl) (fun _ _ _ h => h) (Or.inl ⟨by rfl, ?_⟩) hHeld ?_ ?_
            rotate_left
            · rintro w' ⟨s0, s1, s2, s3, s4, s5, s6, s7⟩
              go_simp
              with_reducible rfl
            rotate_left
            · simp only [Act.put, List.setIfInBounds_toArray, List.set_cons_zero, List.set_cons_succ, i64_w, i32_w]
              rfl
            refine one_ (i := 1) (N := some 21) #[true, true, true, false, false, false] rfl rfl (by kernel_rfl) (by decide) (fun K hK => ?_)
            refine goes_ Try.func69 (by kernel_rfl) rfl #[.agg #[.slice A0_0 l0_0.length c0_0, .slice A0_1 l0_1.length c0_1, .slice A0_2 l0_2.length c0_2, .slice A0_3 l0_3.length c0_3]] (by rfl) rfl rfl (by (try simp only [List.map_toArray, List.map_cons, List.map_nil]); first | done | rfl | (simp only [List.length_drop, List.length_take]; rfl)) ?_
            with_reducible refine (laws_toDevice.calls k _ _ l0_0 _ _ l0_1 _ _ l0_2 _ _ l0_3 t165 t168 t171 t174 _ ?side1 ?side2 ?side3 ?side4 ?side5 ?side6 ?side7 ?side8 A19.out).mono ?_
            (case side1 => exact cB HR0_0.out HB.out)
            (case side2 => exact HC0_0.out)
            (case side3 => exact cB HR0_1.out HB.out)
            (case side4 => exact HC0_1.out)
            (case side5 => exact cB HR0_2.out HB.out)
            (case side6 => exact HC0_2.out)
            (case side7 => exact cB HR0_3.out HB.out)
            (case side8 => exact HC0_3.out)
            rintro e w138 ⟨v166, v169, v172, v175, rfl, ho0, ho1, ho2, ho3, hb⟩
            refine ⟨_, rfl, ?_⟩
            have n0_ := Aside0.mk (Kd.R_lower ho0 (below_size (bS HB.out)))
            have n1_ := Aside0.mk (Kd.R_lower ho1 (below_size (bS HB.out)))
            have n2_ := Aside0.mk (Kd.R_lower ho2 (below_size (bS HB.out)))
            have n3_ := Aside0.mk (Kd.R_lower ho3 (below_size (bS HB.out)))
            have n4_ := Aside0.mk (blk_below (kA BK161.out) hb)
            have n5_ := Aside0.mk (blk_below (kA BK162.out) hb)
            have n6_ := Aside0.mk (below_step (bS HB.out) hb)
            clear BK161
            clear BK162
            clear HB
            have HO167 := n0_
            have HO170 := n1_
            have HO173 := n2_
            have HO176 := n3_
            have BK161 := n4_
            have BK162 := n5_
            have HB := n6_
            clear n0_ n1_ n2_ n3_ n4_ n5_ n6_
            (try clear hb)
            (try clear hb2)
            (try clear hk)
            (try clear hi)
            (try clear ho0)
            (try clear ho1)
            (try clear ho2)
            (try clear ho3)
            refine hK.out _ _ ⟨(blk_cell BK161.out 0).trans rfl, (blk_cell BK161.out 1).trans rfl, (blk_cell BK161.out 2).trans rfl, (blk_cell BK161.out 3).trans rfl, (blk_cell BK162.out 0).trans rfl, (blk_cell BK162.out 1).trans rfl, (blk_cell BK162.out 2).trans rfl, (blk_cell BK162.out 3).trans rfl⟩ (fun hHeld => ?_)
            clear hK K
            refine norm_ (a' := ?_) ?_ ?_
            rotate_left
            · show Act.put _ (some 21) _ = _
              simp only [Act.put, List.setIfInBounds_toArray, List.set_cons_zero, List.set_cons_succ, i64_w, i32_w]
              rfl
            refine one_ (i := 3) (N := some 23) #[true, true, true, true, false, false] rfl rfl (by kernel_rfl) (by decide) (fun K hK => ?_)
            refine goes_ Try.func69 (by kernel_rfl) rfl #[.agg #[.slice A1_0 l1_0.length c1_0, .slice A1_1 l1_1.length c1_1, .slice A1_2 l1_2.length c1_2, .slice A1_3 l1_3.length c1_3]] (by rfl) rfl rfl (by (try simp only [List.map_toArray, List.map_cons, List.map_nil]); first | done | rfl | (simp only [List.length_drop, List.length_take]; rfl)) ?_
            with_reducible refine (laws_toDevice.calls k _ _ l1_0 _ _ l1_1 _ _ l1_2 _ _ l1_3 t177 t180 t183 t186 _ ?side1 ?side2 ?side3 ?side4 ?side5 ?side6 ?side7 ?side8 A20.out).mono ?_
            (case side1 => exact cB HR1_0.out HB.out)
            (case side2 => exact HC1_0.out)
            (case side3 => exact cB HR1_1.out HB.out)
            (case side4 => exact HC1_1.out)
            (case side5 => exact cB HR1_2.out HB.out)
            (case side6 => exact HC1_2.out)
            (case side7 => exact cB HR1_3.out HB.out)
            (case side8 => exact HC1_3.out)
            rintro e w139 ⟨v178, v181, v184, v187, rfl, ho0, ho1, ho2, ho3, hb⟩
            refine ⟨_, rfl, ?_⟩
            have n0_ := Aside0.mk (rM (Kd.R_told (Kd.R_told (Kd.R_old (rA HO167.out) hb) (Kd.R_base ho0)) (Kd.R_base ho1)))
            have n1_ := Aside0.mk (rM (Kd.R_told (Kd.R_told (Kd.R_old (rA HO170.out) hb) (Kd.R_base ho0)) (Kd.R_base ho1)))
            have n2_ := Aside0.mk (rM (Kd.R_told (Kd.R_told (Kd.R_old (rA HO173.out) hb) (Kd.R_base ho2)) (Kd.R_base ho3)))
            have n3_ := Aside0.mk (rM (Kd.R_told (Kd.R_told (Kd.R_old (rA HO176.out) hb) (Kd.R_base ho2)) (Kd.R_base ho3)))
            have n4_ := Aside0.mk (Kd.R_lower (Kd.R_new' (Kd.R_new' ho0 (Kd.R_lt (rA HO167.out))) (Kd.R_lt (rA HO170.out))) (below_size (bS HB.out)))
            have n5_ := Aside0.mk (Kd.R_lower (Kd.R_new' (Kd.R_new' ho1 (Kd.R_lt (rA HO167.out))) (Kd.R_lt (rA HO170.out))) (below_size (bS HB.out)))
            have n6_ := Aside0.mk (Kd.R_lower (Kd.R_new' (Kd.R_new' ho2 (Kd.R_lt (rA HO173.out))) (Kd.R_lt (rA HO176.out))) (below_size (bS HB.out)))
            have n7_ := Aside0.mk (Kd.R_lower (Kd.R_new' (Kd.R_new' ho3 (Kd.R_lt (rA HO173.out))) (Kd.R_lt (rA HO176.out))) (below_size (bS HB.out)))
            have n8_ := Aside0.mk (blk_below (kA BK161.out) hb)
            have n9_ := Aside0.mk (blk_below (kA BK162.out) hb)
            have n10_ := Aside0.mk (below_step (bS HB.out) hb)
            clear HO167
            clear HO170
            clear HO173
            clear HO176
            clear BK161
            clear BK162
            clear HB
            have HO167 := n0_
            have HO170 := n1_
            have HO173 := n2_
            have HO176 := n3_
            have HO179 := n4_
            have HO182 := n5_
            have HO185 := n6_
            have HO188 := n7_
            have BK161 := n8_
            have BK162 := n9_
            have HB := n10_
            clear n0_ n1_ n2_ n3_ n4_ n5_ n6_ n7_ n8_ n9_ n10_
            (try clear hb)
            (try clear hb2)
            (try clear hk)
            (try clear hi)
            (try clear ho0)
            (try clear ho1)
            (try clear ho2)
            (try clear ho3)
            obtain ⟨Ao140, co140, eo140⟩ := Kd.R_slice HO167.out
            (first | subst eo140 | (injection eo140 with f1_ f2_ f3_; have f4_ := f1_.symm; have f5_ := f3_.symm; clear f1_ f2_ f3_; subst f4_; subst f5_))
            obtain ⟨Ao141, co141, eo141⟩ := Kd.R_slice HO170.out
            (first | subst eo141 | (injection eo141 with f1_ f2_ f3_; have f4_ := f1_.symm; have f5_ := f3_.symm; clear f1_ f2_ f3_; subst f4_; subst f5_))
            obtain ⟨Ao142, co142, eo142⟩ := Kd.R_slice HO173.out
            (first | subst eo142 | (injection eo142 with f1_ f2_ f3_; have f4_ := f1_.symm; have f5_ := f3_.symm; clear f1_ f2_ f3_; subst f4_; subst f5_))
            obtain ⟨Ao143, co143, eo143⟩ := Kd.R_slice HO176.out
            (first | subst eo143 | (injection eo143 with f1_ f2_ f3_; have f4_ := f1_.symm; have f5_ := f3_.symm; clear f1_ f2_ f3_; subst f4_; subst f5_))
            obtain ⟨Ao144, co144, eo144⟩ := Kd.R_slice HO179.out
            (first | subst eo144 | (injection eo144 with f1_ f2_ f3_; have f4_ := f1_.symm; have f5_ := f3_.symm; clear f1_ f2_ f3_; subst f4_; subst f5_))
            obtain ⟨Ao145, co145, eo145⟩ := Kd.R_slice HO182.out
            (first | subst eo145 | (injection eo145 with f1_ f2_ f3_; have f4_ := f1_.symm; have f5_ := f3_.symm; clear f1_ f2_ f3_; subst f4_; subst f5_))
            obtain ⟨Ao146, co146, eo146⟩ := Kd.R_slice HO185.out
            (first | subst eo146 | (injection eo146 with f1_ f2_ f3_; have f4_ := f1_.symm; have f5_ := f3_.symm; clear f1_ f2_ f3_; subst f4_; subst f5_))
            obtain ⟨Ao147, co147, eo147⟩ := Kd.R_slice HO188.out
            (first | subst eo147 | (injection eo147 with f1_ f2_ f3_; have f4_ := f1_.symm; have f5_ := f3_.symm; clear f1_ f2_ f3_; subst f4_; subst f5_))
            refine hK.out _ _ ⟨(blk_cell BK161.out 0).trans rfl, (blk_cell BK161.out 1).trans rfl, (blk_cell BK161.out 2).trans rfl, (blk_cell BK161.out 3).trans rfl, (blk_cell BK162.out 0).trans rfl, (blk_cell BK162.out 1).trans rfl, (blk_cell BK162.out 2).trans rfl, (blk_cell BK162.out 3).trans rfl⟩ (fun hHeld => ?_)
            clear hK K
            refine norm_ (a' := ?_) ?_ ?_
            rotate_left
            · show Act.put _ (some 23) _ = _
              simp only [Act.put, List.setIfInBounds_toArray, List.set_cons_zero, List.set_cons_succ, i64_w, i32_w]
              rfl
            refine one_ (i := 4) (N := some 24) #[true, true, true, true, true, false] rfl rfl (by kernel_rfl) (by decide) (fun K hK => ?_)
            refine goes_ Try.func72 (by kernel_rfl) rfl #[.agg #[.slice Ao140 t165.length co140, .slice Ao141 t168.length co141, .slice Ao142 t171.length co142, .slice Ao143 t174.length co143], .agg #[.slice Ao144 t177.length co144, .slice Ao145 t180.length co145, .slice Ao146 t183.length co146, .slice Ao147 t186.length co147]] (by rfl) rfl rfl (by (try simp only [List.map_toArray, List.map_cons, List.map_nil]); first | done | rfl | (simp only [List.length_drop, List.length_take]; rfl)) ?_
            with_reducible refine (spec_SameDevice.calls k _ _ t165 _ _ t168 _ _ t171 _ _ t174 _ _ t177 _ _ t180 _ _ t183 _ _ t186 t189 _ ?side1 ?side2 ?side3 ?side4 ?side5 ?side6 ?side7 ?side8 ?side9 ?side10 ?side11 ?side12 ?side13 ?side14 ?side15 ?side16 A21.out).mono ?_
            (case side1 => repeat (first | exact (Kd.R_reads' HO167.out).2.2 | (with_reducible refine Kd.C_alloc ?_ _) | (with_reducible refine Kd.C_drewN ?_ _) | (with_reducible refine Kd.C_drew ?_)))
            (case side2 => exact (Kd.R_reads' HO167.out).2.1)
            (case side3 => repeat (first | exact (Kd.R_reads' HO170.out).2.2 | (with_reducible refine Kd.C_alloc ?_ _) | (with_reducible refine Kd.C_drewN ?_ _) | (with_reducible refine Kd.C_drew ?_)))
            (case side4 => exact (Kd.R_reads' HO170.out).2.1)
            (case side5 => repeat (first | exact (Kd.R_reads' HO173.out).2.2 | (with_reducible refine Kd.C_alloc ?_ _) | (with_reducible refine Kd.C_drewN ?_ _) | (with_reducible refine Kd.C_drew ?_)))
            (case side6 => exact (Kd.R_reads' HO173.out).2.1)
            (case side7 => repeat (first | exact (Kd.R_reads' HO176.out).2.2 | (with_reducible refine Kd.C_alloc ?_ _) | (with_reducible refine Kd.C_drewN ?_ _) | (with_reducible refine Kd.C_drew ?_)))
            (case side8 => exact (Kd.R_reads' HO176.out).2.1)
            (case side9 => repeat (first | exact (Kd.R_reads' HO179.out).2.2 | (with_reducible refine Kd.C_alloc ?_ _) | (with_reducible refine Kd.C_drewN ?_ _) | (with_reducible refine Kd.C_drew ?_)))
            (case side10 => exact (Kd.R_reads' HO179.out).2.1)
            (case side11 => repeat (first | exact (Kd.R_reads' HO182.out).2.2 | (with_reducible refine Kd.C_alloc ?_ _) | (with_reducible refine Kd.C_drewN ?_ _) | (with_reducible refine Kd.C_drew ?_)))
            (case side12 => exact (Kd.R_reads' HO182.out).2.1)
            (case side13 => repeat (first | exact (Kd.R_reads' HO185.out).2.2 | (with_reducible refine Kd.C_alloc ?_ _) | (with_reducible refine Kd.C_drewN ?_ _) | (with_reducible refine Kd.C_drew ?_)))
            (case side14 => exact (Kd.R_reads' HO185.out).2.1)
            (case side15 => repeat (first | exact (Kd.R_reads' HO188.out).2.2 | (with_reducible refine Kd.C_alloc ?_ _) | (with_reducible refine Kd.C_drewN ?_ _) | (with_reducible refine Kd.C_drew ?_)))
            (case side16 => exact (Kd.R_reads' HO188.out).2.1)
            rintro e w148 ⟨rfl, hb⟩
            refine ⟨_, rfl, ?_⟩
            have n0_ := Aside0.mk (Kd.R_below (rA HO167.out) hb)
            have n1_ := Aside0.mk (Kd.R_below (rA HO170.out) hb)
            have n2_ := Aside0.mk (Kd.R_below (rA HO173.out) hb)
            have n3_ := Aside0.mk (Kd.R_below (rA HO176.out) hb)
            have n4_ := Aside0.mk (Kd.R_below (rA HO179.out) hb)
            have n5_ := Aside0.mk (Kd.R_below (rA HO182.out) hb)
            have n6_ := Aside0.mk (Kd.R_below (rA HO185.out) hb)
            have n7_ := Aside0.mk (Kd.R_below (rA HO188.out) hb)
            have n8_ := Aside0.mk (blk_below (kA BK161.out) hb)
            have n9_ := Aside0.mk (blk_below (kA BK162.out) hb)
            have n10_ := Aside0.mk (below_step (bS HB.out) hb)
            clear HO167
            clear HO170
            clear HO173
            clear HO176
            clear HO179
            clear HO182
            clear HO185
            clear HO188
            clear BK161
            clear BK162
            clear HB
            have HO167 := n0_
            have HO170 := n1_
            have HO173 := n2_
            have HO176 := n3_
            have HO179 := n4_
            have HO182 := n5_
            have HO185 := n6_
            have HO188 := n7_
            have BK161 := n8_
            have BK162 := n9_
            have HB := n10_
            clear n0_ n1_ n2_ n3_ n4_ n5_ n6_ n7_ n8_ n9_ n10_
            (try clear hb)
            (try clear hb2)
            (try clear hk)
            (try clear hi)
            refine hK.out _ _ ⟨(blk_cell BK161.out 0).trans rfl, (blk_cell BK161.out 1).trans rfl, (blk_cell BK161.out 2).trans rfl, (blk_cell BK161.out 3).trans rfl, (blk_cell BK162.out 0).trans rfl, (blk_cell BK162.out 1).trans rfl, (blk_cell BK162.out 2).trans rfl, (blk_cell BK162.out 3).trans rfl⟩ (fun hHeld => ?_)
            clear hK K
            refine norm_ (a' := ?_) ?_ ?_
            rotate_left
            · show Act.put _ (some 24) _ = _
              simp only [Act.put, List.setIfInBounds_toArray, List.set_cons_zero, List.set_cons_succ, i64_w, i32_w]
              rfl
            refine pure_ (i := 5) (N := some 6) (v := ?_) (a' := ?_) #[true, true, true, true, true, true] rfl rfl (by kernel_rfl) (fun _ _ _ h => h) (Or.inl ⟨by rfl, ?_⟩) ?_ ?_
            rotate_left
            · intro w'
              go_simp
              with_reducible rfl
            rotate_left
            · simp only [Act.put, List.setIfInBounds_toArray, List.set_cons_zero, List.set_cons_succ, i64_w, i32_w]
              rfl
            refine done_ (by kernel_rfl) ?_
            obtain ⟨hcz149_0, hfz149_0, hcz149_1, hfz149_1, hcz149_2, hfz149_2, hcz149_3, hfz149_3⟩ := bk4 BK161.out
            try go_wp2_with (first | ((with_reducible refine gate_callee (f := 69) rfl ?_); refine gL (some 26) rfl rfl Try.func69 (by kernel_rfl) rfl #[.agg #[.slice A0_0 l0_0.length c0_0, .slice A0_1 l0_1.length c0_1, .slice A0_2 l0_2.length c0_2, .slice A0_3 l0_3.length c0_3]] rfl ?_; (with_reducible refine (laws_toDevice.calls k _ _ l0_0 _ _ l0_1 _ _ l0_2 _ _ l0_3 t190 t193 t196 t199 _ ?side1 ?side2 ?side3 ?side4 ?side5 ?side6 ?side7 ?side8 A22.out).mono ?_); (case side1 => exact cB HR0_0.out HB.out); (case side2 => exact HC0_0.out); (case side3 => exact cB HR0_1.out HB.out); (case side4 => exact HC0_1.out); (case side5 => exact cB HR0_2.out HB.out); (case side6 => exact HC0_2.out); (case side7 => exact cB HR0_3.out HB.out); (case side8 => exact HC0_3.out); rintro e w150 ⟨v191, v194, v197, v200, rfl, ho0, ho1, ho2, ho3, hb⟩; refine ⟨_, rfl, ?_⟩; have n0_ := Aside0.mk (rM (Kd.R_told (Kd.R_told (Kd.R_old (rA HO167.out) hb) (Kd.R_base ho0)) (Kd.R_base ho1))); have n1_ := Aside0.mk (rM (Kd.R_told (Kd.R_told (Kd.R_old (rA HO170.out) hb) (Kd.R_base ho0)) (Kd.R_base ho1))); have n2_ := Aside0.mk (rM (Kd.R_told (Kd.R_told (Kd.R_old (rA HO173.out) hb) (Kd.R_base ho2)) (Kd.R_base ho3))); have n3_ := Aside0.mk (rM (Kd.R_told (Kd.R_told (Kd.R_old (rA HO176.out) hb) (Kd.R_base ho2)) (Kd.R_base ho3))); have n4_ := Aside0.mk (rM (Kd.R_told (Kd.R_told (Kd.R_old (rA HO179.out) hb) (Kd.R_base ho0)) (Kd.R_base ho1))); have n5_ := Aside0.mk (rM (Kd.R_told (Kd.R_told (Kd.R_old (rA HO182.out) hb) (Kd.R_base ho0)) (Kd.R_base ho1))); have n6_ := Aside0.mk (rM (Kd.R_told (Kd.R_told (Kd.R_old (rA HO185.out) hb) (Kd.R_base ho2)) (Kd.R_base ho3))); have n7_ := Aside0.mk (rM (Kd.R_told (Kd.R_told (Kd.R_old (rA HO188.out) hb) (Kd.R_base ho2)) (Kd.R_base ho3))); have n8_ := Aside0.mk (Kd.R_lower (Kd.R_new' (Kd.R_new' (Kd.R_new' (Kd.R_new' ho0 (Kd.R_lt (rA HO167.out))) (Kd.R_lt (rA HO170.out))) (Kd.R_lt (rA HO179.out))) (Kd.R_lt (rA HO182.out))) (below_size (bS HB.out))); have n9_ := Aside0.mk (Kd.R_lower (Kd.R_new' (Kd.R_new' (Kd.R_new' (Kd.R_new' ho1 (Kd.R_lt (rA HO167.out))) (Kd.R_lt (rA HO170.out))) (Kd.R_lt (rA HO179.out))) (Kd.R_lt (rA HO182.out))) (below_size (bS HB.out))); have n10_ := Aside0.mk (Kd.R_lower (Kd.R_new' (Kd.R_new' (Kd.R_new' (Kd.R_new' ho2 (Kd.R_lt (rA HO173.out))) (Kd.R_lt (rA HO176.out))) (Kd.R_lt (rA HO185.out))) (Kd.R_lt (rA HO188.out))) (below_size (bS HB.out))); have n11_ := Aside0.mk (Kd.R_lower (Kd.R_new' (Kd.R_new' (Kd.R_new' (Kd.R_new' ho3 (Kd.R_lt (rA HO173.out))) (Kd.R_lt (rA HO176.out))) (Kd.R_lt (rA HO185.out))) (Kd.R_lt (rA HO188.out))) (below_size (bS HB.out))); have n12_ := Aside0.mk (blk_below (kA BK161.out) hb); have n13_ := Aside0.mk (blk_below (kA BK162.out) hb); have n14_ := Aside0.mk (below_step (bS HB.out) hb); clear HO167 HO170 HO173 HO176 HO179 HO182 HO185 HO188 BK161 BK162 HB; have HO167 := n0_; have HO170 := n1_; have HO173 := n2_; have HO176 := n3_; have HO179 := n4_; have HO182 := n5_; have HO185 := n6_; have HO188 := n7_; have HO192 := n8_; have HO195 := n9_; have HO198 := n10_; have HO201 := n11_; have BK161 := n12_; have BK162 := n13_; have HB := n14_; clear n0_ n1_ n2_ n3_ n4_ n5_ n6_ n7_ n8_ n9_ n10_ n11_ n12_ n13_ n14_; (try clear hb); (try clear hk); (try clear hi); (try clear ho0); (try clear ho1); (try clear ho2); (try clear ho3)) | ((with_reducible refine gate_dst (N := 7) rfl ?_); refine box_event ?hg (N := 7) ?hd (cs := #[.slice none 0 0, .slice none 0 0, .slice none 0 0, .slice none 0 0]) (t := 72) ?hr ?_; (case hd => rfl); (case hg => rfl); (case hr => first | (go_simp; done) | (go_simp; rfl)); intro gb202 hg w151 hbox hb; have n0_ := Aside0.mk (Kd.R_below (rA HO167.out) hb); have n1_ := Aside0.mk (Kd.R_below (rA HO170.out) hb); have n2_ := Aside0.mk (Kd.R_below (rA HO173.out) hb); have n3_ := Aside0.mk (Kd.R_below (rA HO176.out) hb); have n4_ := Aside0.mk (Kd.R_below (rA HO179.out) hb); have n5_ := Aside0.mk (Kd.R_below (rA HO182.out) hb); have n6_ := Aside0.mk (Kd.R_below (rA HO185.out) hb); have n7_ := Aside0.mk (Kd.R_below (rA HO188.out) hb); have n8_ := Aside0.mk (Kd.R_below (rA HO192.out) hb); have n9_ := Aside0.mk (Kd.R_below (rA HO195.out) hb); have n10_ := Aside0.mk (Kd.R_below (rA HO198.out) hb); have n11_ := Aside0.mk (Kd.R_below (rA HO201.out) hb); have n12_ := Aside0.mk (blk_below (kA BK161.out) hb); have n13_ := Aside0.mk (blk_below (kA BK162.out) hb); have n14_ := Aside0.mk (below_step (bS HB.out) hb); have n15_ := Aside0.mk (hbox); have n16_ := Aside0.mk ((by rw [hg]; exact (below_size (bS HB.out)) : w.heap.size ≤ gb202)); have n17_ := n16_; have n18_ := Aside0.mk ((by rw [hg]; exact Nat.ne_of_lt (blk_lt (g := gb161) (o := .cells #[.slice A0_0 l0_0.length c0_0, .slice A0_1 l0_1.length c0_1, .slice A0_2 l0_2.length c0_2, .slice A0_3 l0_3.length c0_3] 81 (0, 0)) (kA BK161.out)) : gb161 ≠ gb202)); have n19_ := Aside0.mk ((by rw [hg]; exact Nat.ne_of_gt (blk_lt (g := gb161) (o := .cells #[.slice A0_0 l0_0.length c0_0, .slice A0_1 l0_1.length c0_1, .slice A0_2 l0_2.length c0_2, .slice A0_3 l0_3.length c0_3] 81 (0, 0)) (kA BK161.out)) : gb202 ≠ gb161)); have n20_ := Aside0.mk ((by rw [hg]; exact Nat.ne_of_lt (blk_lt (g := gb162) (o := .cells #[.slice A1_0 l1_0.length c1_0, .slice A1_1 l1_1.length c1_1, .slice A1_2 l1_2.length c1_2, .slice A1_3 l1_3.length c1_3] 81 (0, 0)) (kA BK162.out)) : gb162 ≠ gb202)); have n21_ := Aside0.mk ((by rw [hg]; exact Nat.ne_of_gt (blk_lt (g := gb162) (o := .cells #[.slice A1_0 l1_0.length c1_0, .slice A1_1 l1_1.length c1_1, .slice A1_2 l1_2.length c1_2, .slice A1_3 l1_3.length c1_3] 81 (0, 0)) (kA BK162.out)) : gb202 ≠ gb162)); clear HO167 HO170 HO173 HO176 HO179 HO182 HO185 HO188 HO192 HO195 HO198 HO201 BK161 BK162 HB; have HO167 := n0_; have HO170 := n1_; have HO173 := n2_; have HO176 := n3_; have HO179 := n4_; have HO182 := n5_; have HO185 := n6_; have HO188 := n7_; have HO192 := n8_; have HO195 := n9_; have HO198 := n10_; have HO201 := n11_; have BK161 := n12_; have BK162 := n13_; have HB := n14_; have BK202 := n15_; have GW202 := n16_; have GE202 := n17_; have NB161_202 := n18_; have NB202_161 := n19_; have NB162_202 := n20_; have NB202_162 := n21_; clear n0_ n1_ n2_ n3_ n4_ n5_ n6_ n7_ n8_ n9_ n10_ n11_ n12_ n13_ n14_ n15_ n16_ n17_ n18_ n19_ n20_ n21_; clear hb hbox hg; obtain ⟨Ao152, co152, eo152⟩ := Kd.R_slice HO192.out; subst eo152; have hnb153 := NB202_161.out; have hnc153 := NB161_202.out; have hnb154 := NB202_162.out; have hnc154 := NB162_202.out; obtain ⟨hcz155_0, hfz155_0, hcz155_1, hfz155_1, hcz155_2, hfz155_2, hcz155_3, hfz155_3⟩ := bk4 BK202.out; obtain ⟨Ao156, co156, eo156⟩ := Kd.R_slice HO195.out; subst eo156; obtain ⟨Ao157, co157, eo157⟩ := Kd.R_slice HO198.out; subst eo157; obtain ⟨Ao158, co158, eo158⟩ := Kd.R_slice HO201.out; subst eo158; obtain ⟨hcz159_0, hfz159_0, hcz159_1, hfz159_1, hcz159_2, hfz159_2, hcz159_3, hfz159_3⟩ := bk4 BK162.out) | ((with_reducible refine gate_callee (f := 69) rfl ?_); refine gL (some 28) rfl rfl Try.func69 (by kernel_rfl) rfl #[.agg #[.slice A1_0 l1_0.length c1_0, .slice A1_1 l1_1.length c1_1, .slice A1_2 l1_2.length c1_2, .slice A1_3 l1_3.length c1_3]] rfl ?_; (with_reducible refine (laws_toDevice.calls k _ _ l1_0 _ _ l1_1 _ _ l1_2 _ _ l1_3 t203 t206 t209 t212 _ ?side1 ?side2 ?side3 ?side4 ?side5 ?side6 ?side7 ?side8 A23.out).mono ?_); (case side1 => exact Kd.C_below HR1_0.out (bS HB.out)); (case side2 => exact HC1_0.out); (case side3 => exact Kd.C_below HR1_1.out (bS HB.out)); (case side4 => exact HC1_1.out); (case side5 => exact Kd.C_below HR1_2.out (bS HB.out)); (case side6 => exact HC1_2.out); (case side7 => exact Kd.C_below HR1_3.out (bS HB.out)); (case side8 => exact HC1_3.out); rintro e w160 ⟨v204, v207, v210, v213, rfl, ho0, ho1, ho2, ho3, hb⟩; refine ⟨_, rfl, ?_⟩; have n0_ := Aside0.mk (rM (Kd.R_told (Kd.R_told (Kd.R_old (rF4 HO167.out BK202.out) hb) (Kd.R_base ho0)) (Kd.R_base ho1))); have n1_ := Aside0.mk (rM (Kd.R_told (Kd.R_told (Kd.R_old (rF4 HO170.out BK202.out) hb) (Kd.R_base ho0)) (Kd.R_base ho1))); have n2_ := Aside0.mk (rM (Kd.R_told (Kd.R_told (Kd.R_old (rF4 HO173.out BK202.out) hb) (Kd.R_base ho2)) (Kd.R_base ho3))); have n3_ := Aside0.mk (rM (Kd.R_told (Kd.R_told (Kd.R_old (rF4 HO176.out BK202.out) hb) (Kd.R_base ho2)) (Kd.R_base ho3))); have n4_ := Aside0.mk (rM (Kd.R_told (Kd.R_told (Kd.R_old (rF4 HO179.out BK202.out) hb) (Kd.R_base ho0)) (Kd.R_base ho1))); have n5_ := Aside0.mk (rM (Kd.R_told (Kd.R_told (Kd.R_old (rF4 HO182.out BK202.out) hb) (Kd.R_base ho0)) (Kd.R_base ho1))); have n6_ := Aside0.mk (rM (Kd.R_told (Kd.R_told (Kd.R_old (rF4 HO185.out BK202.out) hb) (Kd.R_base ho2)) (Kd.R_base ho3))); have n7_ := Aside0.mk (rM (Kd.R_told (Kd.R_told (Kd.R_old (rF4 HO188.out BK202.out) hb) (Kd.R_base ho2)) (Kd.R_base ho3))); have n8_ := Aside0.mk (rM (Kd.R_told (Kd.R_told (Kd.R_old (rF4 HO192.out BK202.out) hb) (Kd.R_base ho0)) (Kd.R_base ho1))); have n9_ := Aside0.mk (rM (Kd.R_told (Kd.R_told (Kd.R_old (rF4 HO195.out BK202.out) hb) (Kd.R_base ho0)) (Kd.R_base ho1))); have n10_ := Aside0.mk (rM (Kd.R_told (Kd.R_told (Kd.R_old (rF4 HO198.out BK202.out) hb) (Kd.R_base ho2)) (Kd.R_base ho3))); have n11_ := Aside0.mk (rM (Kd.R_told (Kd.R_told (Kd.R_old (rF4 HO201.out BK202.out) hb) (Kd.R_base ho2)) (Kd.R_base ho3))); have n12_ := Aside0.mk (Kd.R_lower (Kd.R_new' (Kd.R_new' (Kd.R_new' (Kd.R_new' (Kd.R_new' (Kd.R_new' ho0 (Kd.R_lt (rF4 HO167.out BK202.out))) (Kd.R_lt (rF4 HO170.out BK202.out))) (Kd.R_lt (rF4 HO179.out BK202.out))) (Kd.R_lt (rF4 HO182.out BK202.out))) (Kd.R_lt (rF4 HO192.out BK202.out))) (Kd.R_lt (rF4 HO195.out BK202.out))) (below_size (bS HB.out))); have n13_ := Aside0.mk (Kd.R_lower (Kd.R_new' (Kd.R_new' (Kd.R_new' (Kd.R_new' (Kd.R_new' (Kd.R_new' ho1 (Kd.R_lt (rF4 HO167.out BK202.out))) (Kd.R_lt (rF4 HO170.out BK202.out))) (Kd.R_lt (rF4 HO179.out BK202.out))) (Kd.R_lt (rF4 HO182.out BK202.out))) (Kd.R_lt (rF4 HO192.out BK202.out))) (Kd.R_lt (rF4 HO195.out BK202.out))) (below_size (bS HB.out))); have n14_ := Aside0.mk (Kd.R_lower (Kd.R_new' (Kd.R_new' (Kd.R_new' (Kd.R_new' (Kd.R_new' (Kd.R_new' ho2 (Kd.R_lt (rF4 HO173.out BK202.out))) (Kd.R_lt (rF4 HO176.out BK202.out))) (Kd.R_lt (rF4 HO185.out BK202.out))) (Kd.R_lt (rF4 HO188.out BK202.out))) (Kd.R_lt (rF4 HO198.out BK202.out))) (Kd.R_lt (rF4 HO201.out BK202.out))) (below_size (bS HB.out))); have n15_ := Aside0.mk (Kd.R_lower (Kd.R_new' (Kd.R_new' (Kd.R_new' (Kd.R_new' (Kd.R_new' (Kd.R_new' ho3 (Kd.R_lt (rF4 HO173.out BK202.out))) (Kd.R_lt (rF4 HO176.out BK202.out))) (Kd.R_lt (rF4 HO185.out BK202.out))) (Kd.R_lt (rF4 HO188.out BK202.out))) (Kd.R_lt (rF4 HO198.out BK202.out))) (Kd.R_lt (rF4 HO201.out BK202.out))) (below_size (bS HB.out))); have n16_ := Aside0.mk (blk_below (kF4 BK161.out NB161_202.out) hb); have n17_ := Aside0.mk (blk_below (kF4 BK162.out NB162_202.out) hb); have n18_ := Aside0.mk (blk_below (kP4 BK202.out) hb); have n19_ := Aside0.mk (below_step (bS HB.out) hb); clear HO167 HO170 HO173 HO176 HO179 HO182 HO185 HO188 HO192 HO195 HO198 HO201 BK161 BK162 BK202 HB; have HO167 := n0_; have HO170 := n1_; have HO173 := n2_; have HO176 := n3_; have HO179 := n4_; have HO182 := n5_; have HO185 := n6_; have HO188 := n7_; have HO192 := n8_; have HO195 := n9_; have HO198 := n10_; have HO201 := n11_; have HO205 := n12_; have HO208 := n13_; have HO211 := n14_; have HO214 := n15_; have BK161 := n16_; have BK162 := n17_; have BK202 := n18_; have HB := n19_; clear n0_ n1_ n2_ n3_ n4_ n5_ n6_ n7_ n8_ n9_ n10_ n11_ n12_ n13_ n14_ n15_ n16_ n17_ n18_ n19_; (try clear hb); (try clear hk); (try clear hi); (try clear ho0); (try clear ho1); (try clear ho2); (try clear ho3)) | ((with_reducible refine gate_dst (N := 8) rfl ?_); refine box_event ?hg (N := 8) ?hd (cs := #[.slice none 0 0, .slice none 0 0, .slice none 0 0, .slice none 0 0]) (t := 72) ?hr ?_; (case hd => rfl); (case hg => rfl); (case hr => first | (go_simp; done) | (go_simp; rfl)); intro gb215 hg w161 hbox hb; have n0_ := Aside0.mk (Kd.R_below (rA HO167.out) hb); have n1_ := Aside0.mk (Kd.R_below (rA HO170.out) hb); have n2_ := Aside0.mk (Kd.R_below (rA HO173.out) hb); have n3_ := Aside0.mk (Kd.R_below (rA HO176.out) hb); have n4_ := Aside0.mk (Kd.R_below (rA HO179.out) hb); have n5_ := Aside0.mk (Kd.R_below (rA HO182.out) hb); have n6_ := Aside0.mk (Kd.R_below (rA HO185.out) hb); have n7_ := Aside0.mk (Kd.R_below (rA HO188.out) hb); have n8_ := Aside0.mk (Kd.R_below (rA HO192.out) hb); have n9_ := Aside0.mk (Kd.R_below (rA HO195.out) hb); have n10_ := Aside0.mk (Kd.R_below (rA HO198.out) hb); have n11_ := Aside0.mk (Kd.R_below (rA HO201.out) hb); have n12_ := Aside0.mk (Kd.R_below (rA HO205.out) hb); have n13_ := Aside0.mk (Kd.R_below (rA HO208.out) hb); have n14_ := Aside0.mk (Kd.R_below (rA HO211.out) hb); have n15_ := Aside0.mk (Kd.R_below (rA HO214.out) hb); have n16_ := Aside0.mk (blk_below (kA BK161.out) hb); have n17_ := Aside0.mk (blk_below (kA BK162.out) hb); have n18_ := Aside0.mk (blk_below (kA BK202.out) hb); have n19_ := Aside0.mk (below_step (bS HB.out) hb); have n20_ := Aside0.mk (hbox); have n21_ := Aside0.mk ((by rw [hg]; exact (below_size (bS HB.out)) : w.heap.size ≤ gb215)); have n22_ := n21_; have n23_ := Aside0.mk ((by rw [hg]; exact Nat.ne_of_lt (blk_lt (g := gb161) (o := .cells #[.slice A0_0 l0_0.length c0_0, .slice A0_1 l0_1.length c0_1, .slice A0_2 l0_2.length c0_2, .slice A0_3 l0_3.length c0_3] 81 (0, 0)) (kA BK161.out)) : gb161 ≠ gb215)); have n24_ := Aside0.mk ((by rw [hg]; exact Nat.ne_of_gt (blk_lt (g := gb161) (o := .cells #[.slice A0_0 l0_0.length c0_0, .slice A0_1 l0_1.length c0_1, .slice A0_2 l0_2.length c0_2, .slice A0_3 l0_3.length c0_3] 81 (0, 0)) (kA BK161.out)) : gb215 ≠ gb161)); have n25_ := Aside0.mk ((by rw [hg]; exact Nat.ne_of_lt (blk_lt (g := gb162) (o := .cells #[.slice A1_0 l1_0.length c1_0, .slice A1_1 l1_1.length c1_1, .slice A1_2 l1_2.length c1_2, .slice A1_3 l1_3.length c1_3] 81 (0, 0)) (kA BK162.out)) : gb162 ≠ gb215)); have n26_ := Aside0.mk ((by rw [hg]; exact Nat.ne_of_gt (blk_lt (g := gb162) (o := .cells #[.slice A1_0 l1_0.length c1_0, .slice A1_1 l1_1.length c1_1, .slice A1_2 l1_2.length c1_2, .slice A1_3 l1_3.length c1_3] 81 (0, 0)) (kA BK162.out)) : gb215 ≠ gb162)); have n27_ := Aside0.mk ((by rw [hg]; exact Nat.ne_of_lt (blk_lt (g := gb202) (o := .cells #[.slice Ao152 t190.length co152, .slice Ao156 t193.length co156, .slice Ao157 t196.length co157, .slice Ao158 t199.length co158] 72 (0, 0)) (kA BK202.out)) : gb202 ≠ gb215)); have n28_ := Aside0.mk ((by rw [hg]; exact Nat.ne_of_gt (blk_lt (g := gb202) (o := .cells #[.slice Ao152 t190.length co152, .slice Ao156 t193.length co156, .slice Ao157 t196.length co157, .slice Ao158 t199.length co158] 72 (0, 0)) (kA BK202.out)) : gb215 ≠ gb202)); clear HO167 HO170 HO173 HO176 HO179 HO182 HO185 HO188 HO192 HO195 HO198 HO201 HO205 HO208 HO211 HO214 BK161 BK162 BK202 HB; have HO167 := n0_; have HO170 := n1_; have HO173 := n2_; have HO176 := n3_; have HO179 := n4_; have HO182 := n5_; have HO185 := n6_; have HO188 := n7_; have HO192 := n8_; have HO195 := n9_; have HO198 := n10_; have HO201 := n11_; have HO205 := n12_; have HO208 := n13_; have HO211 := n14_; have HO214 := n15_; have BK161 := n16_; have BK162 := n17_; have BK202 := n18_; have HB := n19_; have BK215 := n20_; have GW215 := n21_; have GE215 := n22_; have NB161_215 := n23_; have NB215_161 := n24_; have NB162_215 := n25_; have NB215_162 := n26_; have NB202_215 := n27_; have NB215_202 := n28_; clear n0_ n1_ n2_ n3_ n4_ n5_ n6_ n7_ n8_ n9_ n10_ n11_ n12_ n13_ n14_ n15_ n16_ n17_ n18_ n19_ n20_ n21_ n22_ n23_ n24_ n25_ n26_ n27_ n28_; clear hb hbox hg; obtain ⟨Ao162, co162, eo162⟩ := Kd.R_slice HO205.out; subst eo162; have hnb163 := NB215_161.out; have hnc163 := NB161_215.out; have hnb164 := NB215_162.out; have hnc164 := NB162_215.out; have hnb165 := NB215_202.out; have hnc165 := NB202_215.out; obtain ⟨hcz166_0, hfz166_0, hcz166_1, hfz166_1, hcz166_2, hfz166_2, hcz166_3, hfz166_3⟩ := bk4 BK215.out; obtain ⟨Ao167, co167, eo167⟩ := Kd.R_slice HO208.out; subst eo167; obtain ⟨Ao168, co168, eo168⟩ := Kd.R_slice HO211.out; subst eo168; obtain ⟨Ao169, co169, eo169⟩ := Kd.R_slice HO214.out; subst eo169; obtain ⟨hcz170_0, hfz170_0, hcz170_1, hfz170_1, hcz170_2, hfz170_2, hcz170_3, hfz170_3⟩ := bk4 BK202.out) | ((with_reducible refine gate_callee (f := 73) rfl ?_); refine gL (some 31) rfl rfl Try.func73 (by kernel_rfl) rfl #[.agg #[.slice Ao152 t190.length co152, .slice Ao156 t193.length co156, .slice Ao157 t196.length co157, .slice Ao158 t199.length co158], .agg #[.slice Ao162 t203.length co162, .slice Ao167 t206.length co167, .slice Ao168 t209.length co168, .slice Ao169 t212.length co169]] rfl ?_; (with_reducible refine (impl_SameDevice.calls k _ _ t190 _ _ t193 _ _ t196 _ _ t199 _ _ t203 _ _ t206 _ _ t209 _ _ t212 t216 _ ?side1 ?side2 ?side3 ?side4 ?side5 ?side6 ?side7 ?side8 ?side9 ?side10 ?side11 ?side12 ?side13 ?side14 ?side15 ?side16 A24.out).mono ?_); (case side1 => exact (Kd.R_reads' (rF4 HO192.out BK215.out)).2.2); (case side2 => exact (Kd.R_reads' HO192.out).2.1); (case side3 => exact (Kd.R_reads' (rF4 HO195.out BK215.out)).2.2); (case side4 => exact (Kd.R_reads' HO195.out).2.1); (case side5 => exact (Kd.R_reads' (rF4 HO198.out BK215.out)).2.2); (case side6 => exact (Kd.R_reads' HO198.out).2.1); (case side7 => exact (Kd.R_reads' (rF4 HO201.out BK215.out)).2.2); (case side8 => exact (Kd.R_reads' HO201.out).2.1); (case side9 => exact (Kd.R_reads' (rF4 HO205.out BK215.out)).2.2); (case side10 => exact (Kd.R_reads' HO205.out).2.1); (case side11 => exact (Kd.R_reads' (rF4 HO208.out BK215.out)).2.2); (case side12 => exact (Kd.R_reads' HO208.out).2.1); (case side13 => exact (Kd.R_reads' (rF4 HO211.out BK215.out)).2.2); (case side14 => exact (Kd.R_reads' HO211.out).2.1); (case side15 => exact (Kd.R_reads' (rF4 HO214.out BK215.out)).2.2); (case side16 => exact (Kd.R_reads' HO214.out).2.1); rintro e w171 ⟨rfl, hb⟩; refine ⟨_, rfl, ?_⟩; have n0_ := Aside0.mk (Kd.R_below (rF4 HO167.out BK215.out) hb); have n1_ := Aside0.mk (Kd.R_below (rF4 HO170.out BK215.out) hb); have n2_ := Aside0.mk (Kd.R_below (rF4 HO173.out BK215.out) hb); have n3_ := Aside0.mk (Kd.R_below (rF4 HO176.out BK215.out) hb); have n4_ := Aside0.mk (Kd.R_below (rF4 HO179.out BK215.out) hb); have n5_ := Aside0.mk (Kd.R_below (rF4 HO182.out BK215.out) hb); have n6_ := Aside0.mk (Kd.R_below (rF4 HO185.out BK215.out) hb); have n7_ := Aside0.mk (Kd.R_below (rF4 HO188.out BK215.out) hb); have n8_ := Aside0.mk (Kd.R_below (rF4 HO192.out BK215.out) hb); have n9_ := Aside0.mk (Kd.R_below (rF4 HO195.out BK215.out) hb); have n10_ := Aside0.mk (Kd.R_below (rF4 HO198.out BK215.out) hb); have n11_ := Aside0.mk (Kd.R_below (rF4 HO201.out BK215.out) hb); have n12_ := Aside0.mk (Kd.R_below (rF4 HO205.out BK215.out) hb); have n13_ := Aside0.mk (Kd.R_below (rF4 HO208.out BK215.out) hb); have n14_ := Aside0.mk (Kd.R_below (rF4 HO211.out BK215.out) hb); have n15_ := Aside0.mk (Kd.R_below (rF4 HO214.out BK215.out) hb); have n16_ := Aside0.mk (blk_below (kF4 BK161.out NB161_215.out) hb); have n17_ := Aside0.mk (blk_below (kF4 BK162.out NB162_215.out) hb); have n18_ := Aside0.mk (blk_below (kF4 BK202.out NB202_215.out) hb); have n19_ := Aside0.mk (blk_below (kP4 BK215.out) hb); have n20_ := Aside0.mk (below_step (bS HB.out) hb); clear HO167 HO170 HO173 HO176 HO179 HO182 HO185 HO188 HO192 HO195 HO198 HO201 HO205 HO208 HO211 HO214 BK161 BK162 BK202 BK215 HB; have HO167 := n0_; have HO170 := n1_; have HO173 := n2_; have HO176 := n3_; have HO179 := n4_; have HO182 := n5_; have HO185 := n6_; have HO188 := n7_; have HO192 := n8_; have HO195 := n9_; have HO198 := n10_; have HO201 := n11_; have HO205 := n12_; have HO208 := n13_; have HO211 := n14_; have HO214 := n15_; have BK161 := n16_; have BK162 := n17_; have BK202 := n18_; have BK215 := n19_; have HB := n20_; clear n0_ n1_ n2_ n3_ n4_ n5_ n6_ n7_ n8_ n9_ n10_ n11_ n12_ n13_ n14_ n15_ n16_ n17_ n18_ n19_ n20_; (try clear hb); (try clear hk); (try clear hi)))
            have n0_ := Aside0.mk (Kd.R_drew HO167.out)
            have n1_ := Aside0.mk (Kd.R_drew HO170.out)
            have n2_ := Aside0.mk (Kd.R_drew HO173.out)
            have n3_ := Aside0.mk (Kd.R_drew HO176.out)
            have n4_ := Aside0.mk (Kd.R_drew HO179.out)
            have n5_ := Aside0.mk (Kd.R_drew HO182.out)
            have n6_ := Aside0.mk (Kd.R_drew HO185.out)
            have n7_ := Aside0.mk (Kd.R_drew HO188.out)
            have n8_ := Aside0.mk (Kd.R_drew HO192.out)
            have n9_ := Aside0.mk (Kd.R_drew HO195.out)
            have n10_ := Aside0.mk (Kd.R_drew HO198.out)
            have n11_ := Aside0.mk (Kd.R_drew HO201.out)
            have n12_ := Aside0.mk (Kd.R_drew HO205.out)
            have n13_ := Aside0.mk (Kd.R_drew HO208.out)
            have n14_ := Aside0.mk (Kd.R_drew HO211.out)
            have n15_ := Aside0.mk (Kd.R_drew HO214.out)
            have n16_ := Aside0.mk (blk_drew BK161.out)
            have n17_ := Aside0.mk (blk_drew BK162.out)
            have n18_ := Aside0.mk (blk_drew BK202.out)
            have n19_ := Aside0.mk (blk_drew BK215.out)
            have n20_ := Aside0.mk (below_drew1 HB.out)
            clear HO167
            clear HO170
            clear HO173
            clear HO176
            clear HO179
            clear HO182
            clear HO185
            clear HO188
            clear HO192
            clear HO195
            clear HO198
            clear HO201
            clear HO205
            clear HO208
            clear HO211
            clear HO214
            clear BK161
            clear BK162
            clear BK202
            clear BK215
            clear HB
            have HO167 := n0_
            have HO170 := n1_
            have HO173 := n2_
            have HO176 := n3_
            have HO179 := n4_
            have HO182 := n5_
            have HO185 := n6_
            have HO188 := n7_
            have HO192 := n8_
            have HO195 := n9_
            have HO198 := n10_
            have HO201 := n11_
            have HO205 := n12_
            have HO208 := n13_
            have HO211 := n14_
            have HO214 := n15_
            have BK161 := n16_
            have BK162 := n17_
            have BK202 := n18_
            have BK215 := n19_
            have HB := n20_
            clear n0_ n1_ n2_ n3_ n4_ n5_ n6_ n7_ n8_ n9_ n10_ n11_ n12_ n13_ n14_ n15_ n16_ n17_ n18_ n19_ n20_
            refine start_ (n := 5) (S := fun w' => w'.cell? ⟨gb202, 0, none⟩ = some (.slice Ao152 t190.length co152) ∧ w'.cell? ⟨gb202, 1, none⟩ = some (.slice Ao156 t193.length co156) ∧ w'.cell? ⟨gb202, 2, none⟩ = some (.slice Ao157 t196.length co157) ∧ w'.cell? ⟨gb202, 3, none⟩ = some (.slice Ao158 t199.length co158) ∧ w'.cell? ⟨gb161, 0, none⟩ = some (.slice A0_0 l0_0.length c0_0) ∧ w'.cell? ⟨gb161, 1, none⟩ = some (.slice A0_1 l0_1.length c0_1) ∧ w'.cell? ⟨gb161, 2, none⟩ = some (.slice A0_2 l0_2.length c0_2) ∧ w'.cell? ⟨gb161, 3, none⟩ = some (.slice A0_3 l0_3.length c0_3)) (ds := []) #[false, false, false, false, false] (by kernel_rfl) rfl rfl ⟨(blk_cell BK202.out 0).trans rfl, (blk_cell BK202.out 1).trans rfl, (blk_cell BK202.out 2).trans rfl, (blk_cell BK202.out 3).trans rfl, (blk_cell BK161.out 0).trans rfl, (blk_cell BK161.out 1).trans rfl, (blk_cell BK161.out 2).trans rfl, (blk_cell BK161.out 3).trans rfl⟩ (fun hHeld => ?_)
            generalize w171.drew = w172 at HO167 HO170 HO173 HO176 HO179 HO182 HO185 HO188 HO192 HO195 HO198 HO201 HO205 HO208 HO211 HO214 BK161 BK162 BK202 BK215 HB hHeld ⊢
            refine take_ (i := 0) (N := some 35) (v := ?_) (a' := ?_) #[true, false, false, false, false] rfl rfl (by kernel_rfl) (fun _ _ _ h => h) (Or.inl ⟨by rfl, ?_⟩) hHeld ?_ ?_
            rotate_left
            · rintro w' ⟨s0, s1, s2, s3, s4, s5, s6, s7⟩
              go_simp
              with_reducible rfl
            rotate_left
            · simp only [Act.put, List.setIfInBounds_toArray, List.set_cons_zero, List.set_cons_succ, i64_w, i32_w]
              rfl
            refine take_ (i := 1) (N := some 36) (v := ?_) (a' := ?_) #[true, true, false, false, false] rfl rfl (by kernel_rfl) (fun _ _ _ h => h) (Or.inl ⟨by rfl, ?_⟩) hHeld ?_ ?_
            rotate_left
            · rintro w' ⟨s0, s1, s2, s3, s4, s5, s6, s7⟩
              go_simp
              with_reducible rfl
            rotate_left
            · simp only [Act.put, List.setIfInBounds_toArray, List.set_cons_zero, List.set_cons_succ, i64_w, i32_w]
              rfl
            refine one_ (i := 2) (N := some 37) #[true, true, true, false, false] rfl rfl (by kernel_rfl) (by decide) (fun K hK => ?_)
            refine goes_ Try.func69 (by kernel_rfl) rfl #[.agg #[.slice A0_0 l0_0.length c0_0, .slice A0_1 l0_1.length c0_1, .slice A0_2 l0_2.length c0_2, .slice A0_3 l0_3.length c0_3]] (by rfl) rfl rfl (by (try simp only [List.map_toArray, List.map_cons, List.map_nil]); first | done | rfl | (simp only [List.length_drop, List.length_take]; rfl)) ?_
            with_reducible refine (laws_toDevice.calls k _ _ l0_0 _ _ l0_1 _ _ l0_2 _ _ l0_3 t217 t220 t223 t226 _ ?side1 ?side2 ?side3 ?side4 ?side5 ?side6 ?side7 ?side8 A68.out).mono ?_
            (case side1 => exact cB HR0_0.out HB.out)
            (case side2 => exact HC0_0.out)
            (case side3 => exact cB HR0_1.out HB.out)
            (case side4 => exact HC0_1.out)
            (case side5 => exact cB HR0_2.out HB.out)
            (case side6 => exact HC0_2.out)
            (case side7 => exact cB HR0_3.out HB.out)
            (case side8 => exact HC0_3.out)
            rintro e w173 ⟨v218, v221, v224, v227, rfl, ho0, ho1, ho2, ho3, hb⟩
            refine ⟨_, rfl, ?_⟩
            have n0_ := Aside0.mk (rM (Kd.R_told (Kd.R_told (Kd.R_old (rA HO167.out) hb) (Kd.R_base ho0)) (Kd.R_base ho1)))
            have n1_ := Aside0.mk (rM (Kd.R_told (Kd.R_told (Kd.R_old (rA HO170.out) hb) (Kd.R_base ho0)) (Kd.R_base ho1)))
            have n2_ := Aside0.mk (rM (Kd.R_told (Kd.R_told (Kd.R_old (rA HO173.out) hb) (Kd.R_base ho2)) (Kd.R_base ho3)))
            have n3_ := Aside0.mk (rM (Kd.R_told (Kd.R_told (Kd.R_old (rA HO176.out) hb) (Kd.R_base ho2)) (Kd.R_base ho3)))
            have n4_ := Aside0.mk (rM (Kd.R_told (Kd.R_told (Kd.R_old (rA HO179.out) hb) (Kd.R_base ho0)) (Kd.R_base ho1)))
            have n5_ := Aside0.mk (rM (Kd.R_told (Kd.R_told (Kd.R_old (rA HO182.out) hb) (Kd.R_base ho0)) (Kd.R_base ho1)))
            have n6_ := Aside0.mk (rM (Kd.R_told (Kd.R_told (Kd.R_old (rA HO185.out) hb) (Kd.R_base ho2)) (Kd.R_base ho3)))
            have n7_ := Aside0.mk (rM (Kd.R_told (Kd.R_told (Kd.R_old (rA HO188.out) hb) (Kd.R_base ho2)) (Kd.R_base ho3)))
            have n8_ := Aside0.mk (rM (Kd.R_told (Kd.R_told (Kd.R_old (rA HO192.out) hb) (Kd.R_base ho0)) (Kd.R_base ho1)))
            have n9_ := Aside0.mk (rM (Kd.R_told (Kd.R_told (Kd.R_old (rA HO195.out) hb) (Kd.R_base ho0)) (Kd.R_base ho1)))
            have n10_ := Aside0.mk (rM (Kd.R_told (Kd.R_told (Kd.R_old (rA HO198.out) hb) (Kd.R_base ho2)) (Kd.R_base ho3)))
            have n11_ := Aside0.mk (rM (Kd.R_told (Kd.R_told (Kd.R_old (rA HO201.out) hb) (Kd.R_base ho2)) (Kd.R_base ho3)))
            have n12_ := Aside0.mk (rM (Kd.R_told (Kd.R_told (Kd.R_old (rA HO205.out) hb) (Kd.R_base ho0)) (Kd.R_base ho1)))
            have n13_ := Aside0.mk (rM (Kd.R_told (Kd.R_told (Kd.R_old (rA HO208.out) hb) (Kd.R_base ho0)) (Kd.R_base ho1)))
            have n14_ := Aside0.mk (rM (Kd.R_told (Kd.R_told (Kd.R_old (rA HO211.out) hb) (Kd.R_base ho2)) (Kd.R_base ho3)))
            have n15_ := Aside0.mk (rM (Kd.R_told (Kd.R_told (Kd.R_old (rA HO214.out) hb) (Kd.R_base ho2)) (Kd.R_base ho3)))
            have n16_ := Aside0.mk (Kd.R_lower (Kd.R_new' (Kd.R_new' (Kd.R_new' (Kd.R_new' (Kd.R_new' (Kd.R_new' (Kd.R_new' (Kd.R_new' ho0 (Kd.R_lt (rA HO167.out))) (Kd.R_lt (rA HO170.out))) (Kd.R_lt (rA HO179.out))) (Kd.R_lt (rA HO182.out))) (Kd.R_lt (rA HO192.out))) (Kd.R_lt (rA HO195.out))) (Kd.R_lt (rA HO205.out))) (Kd.R_lt (rA HO208.out))) (below_size (bS HB.out)))
            have n17_ := Aside0.mk (Kd.R_lower (Kd.R_new' (Kd.R_new' (Kd.R_new' (Kd.R_new' (Kd.R_new' (Kd.R_new' (Kd.R_new' (Kd.R_new' ho1 (Kd.R_lt (rA HO167.out))) (Kd.R_lt (rA HO170.out))) (Kd.R_lt (rA HO179.out))) (Kd.R_lt (rA HO182.out))) (Kd.R_lt (rA HO192.out))) (Kd.R_lt (rA HO195.out))) (Kd.R_lt (rA HO205.out))) (Kd.R_lt (rA HO208.out))) (below_size (bS HB.out)))
            have n18_ := Aside0.mk (Kd.R_lower (Kd.R_new' (Kd.R_new' (Kd.R_new' (Kd.R_new' (Kd.R_new' (Kd.R_new' (Kd.R_new' (Kd.R_new' ho2 (Kd.R_lt (rA HO173.out))) (Kd.R_lt (rA HO176.out))) (Kd.R_lt (rA HO185.out))) (Kd.R_lt (rA HO188.out))) (Kd.R_lt (rA HO198.out))) (Kd.R_lt (rA HO201.out))) (Kd.R_lt (rA HO211.out))) (Kd.R_lt (rA HO214.out))) (below_size (bS HB.out)))
            have n19_ := Aside0.mk (Kd.R_lower (Kd.R_new' (Kd.R_new' (Kd.R_new' (Kd.R_new' (Kd.R_new' (Kd.R_new' (Kd.R_new' (Kd.R_new' ho3 (Kd.R_lt (rA HO173.out))) (Kd.R_lt (rA HO176.out))) (Kd.R_lt (rA HO185.out))) (Kd.R_lt (rA HO188.out))) (Kd.R_lt (rA HO198.out))) (Kd.R_lt (rA HO201.out))) (Kd.R_lt (rA HO211.out))) (Kd.R_lt (rA HO214.out))) (below_size (bS HB.out)))
            have n20_ := Aside0.mk (blk_below (kA BK161.out) hb)
            have n21_ := Aside0.mk (blk_below (kA BK162.out) hb)
            have n22_ := Aside0.mk (blk_below (kA BK202.out) hb)
            have n23_ := Aside0.mk (blk_below (kA BK215.out) hb)
            have n24_ := Aside0.mk (below_step (bS HB.out) hb)
            clear HO167
            clear HO170
            clear HO173
            clear HO176
            clear HO179
            clear HO182
            clear HO185
            clear HO188
            clear HO192
            clear HO195
            clear HO198
            clear HO201
            clear HO205
            clear HO208
            clear HO211
            clear HO214
            clear BK161
            clear BK162
            clear BK202
            clear BK215
            clear HB
            have HO167 := n0_
            have HO170 := n1_
            have HO173 := n2_
            have HO176 := n3_
            have HO179 := n4_
            have HO182 := n5_
            have HO185 := n6_
            have HO188 := n7_
            have HO192 := n8_
            have HO195 := n9_
            have HO198 := n10_
            have HO201 := n11_
            have HO205 := n12_
            have HO208 := n13_
            have HO211 := n14_
            have HO214 := n15_
            have HO219 := n16_
            have HO222 := n17_
            have HO225 := n18_
            have HO228 := n19_
            have BK161 := n20_
            have BK162 := n21_
            have BK202 := n22_
            have BK215 := n23_
            have HB := n24_
            clear n0_ n1_ n2_ n3_ n4_ n5_ n6_ n7_ n8_ n9_ n10_ n11_ n12_ n13_ n14_ n15_ n16_ n17_ n18_ n19_ n20_ n21_ n22_ n23_ n24_
            (try clear hb)
            (try clear hb2)
            (try clear hk)
            (try clear hi)
            (try clear ho0)
            (try clear ho1)
            (try clear ho2)
            (try clear ho3)
            obtain ⟨Ao174, co174, eo174⟩ := Kd.R_slice HO219.out
            (first | subst eo174 | (injection eo174 with f1_ f2_ f3_; have f4_ := f1_.symm; have f5_ := f3_.symm; clear f1_ f2_ f3_; subst f4_; subst f5_))
            obtain ⟨Ao175, co175, eo175⟩ := Kd.R_slice HO222.out
            (first | subst eo175 | (injection eo175 with f1_ f2_ f3_; have f4_ := f1_.symm; have f5_ := f3_.symm; clear f1_ f2_ f3_; subst f4_; subst f5_))
            obtain ⟨Ao176, co176, eo176⟩ := Kd.R_slice HO225.out
            (first | subst eo176 | (injection eo176 with f1_ f2_ f3_; have f4_ := f1_.symm; have f5_ := f3_.symm; clear f1_ f2_ f3_; subst f4_; subst f5_))
            obtain ⟨Ao177, co177, eo177⟩ := Kd.R_slice HO228.out
            (first | subst eo177 | (injection eo177 with f1_ f2_ f3_; have f4_ := f1_.symm; have f5_ := f3_.symm; clear f1_ f2_ f3_; subst f4_; subst f5_))
            refine hK.out _ _ ⟨(blk_cell BK202.out 0).trans rfl, (blk_cell BK202.out 1).trans rfl, (blk_cell BK202.out 2).trans rfl, (blk_cell BK202.out 3).trans rfl, (blk_cell BK161.out 0).trans rfl, (blk_cell BK161.out 1).trans rfl, (blk_cell BK161.out 2).trans rfl, (blk_cell BK161.out 3).trans rfl⟩ (fun hHeld => ?_)
            clear hK K
            refine norm_ (a' := ?_) ?_ ?_
            rotate_left
            · show Act.put _ (some 37) _ = _
              simp only [Act.put, List.setIfInBounds_toArray, List.set_cons_zero, List.set_cons_succ, i64_w, i32_w]
              rfl
            refine one_ (i := 3) (N := some 38) #[true, true, true, true, false] rfl rfl (by kernel_rfl) (by decide) (fun K hK => ?_)
            refine goes_ Try.func61 (by kernel_rfl) rfl #[.agg #[.slice Ao152 t190.length co152, .slice Ao156 t193.length co156, .slice Ao157 t196.length co157, .slice Ao158 t199.length co158], .agg #[.slice Ao174 t217.length co174, .slice Ao175 t220.length co175, .slice Ao176 t223.length co176, .slice Ao177 t226.length co177]] (by rfl) rfl rfl (by (try simp only [List.map_toArray, List.map_cons, List.map_nil]); first | done | rfl | (simp only [List.length_drop, List.length_take]; rfl)) ?_
            with_reducible refine (laws_eqDevice.calls k _ _ t190 _ _ t193 _ _ t196 _ _ t199 _ _ t217 _ _ t220 _ _ t223 _ _ t226 true _ ?side1 ?side2 ?side3 ?side4 ?side5 ?side6 ?side7 ?side8 ?side9 ?side10 ?side11 ?side12 ?side13 ?side14 ?side15 ?side16 A69.out).mono ?_
            (case side1 => repeat (first | exact (Kd.R_reads' HO192.out).2.2 | (with_reducible refine Kd.C_alloc ?_ _) | (with_reducible refine Kd.C_drewN ?_ _) | (with_reducible refine Kd.C_drew ?_)))
            (case side2 => exact (Kd.R_reads' HO192.out).2.1)
            (case side3 => repeat (first | exact (Kd.R_reads' HO195.out).2.2 | (with_reducible refine Kd.C_alloc ?_ _) | (with_reducible refine Kd.C_drewN ?_ _) | (with_reducible refine Kd.C_drew ?_)))
            (case side4 => exact (Kd.R_reads' HO195.out).2.1)
            (case side5 => repeat (first | exact (Kd.R_reads' HO198.out).2.2 | (with_reducible refine Kd.C_alloc ?_ _) | (with_reducible refine Kd.C_drewN ?_ _) | (with_reducible refine Kd.C_drew ?_)))
            (case side6 => exact (Kd.R_reads' HO198.out).2.1)
            (case side7 => repeat (first | exact (Kd.R_reads' HO201.out).2.2 | (with_reducible refine Kd.C_alloc ?_ _) | (with_reducible refine Kd.C_drewN ?_ _) | (with_reducible refine Kd.C_drew ?_)))
            (case side8 => exact (Kd.R_reads' HO201.out).2.1)
            (case side9 => repeat (first | exact (Kd.R_reads' HO219.out).2.2 | (with_reducible refine Kd.C_alloc ?_ _) | (with_reducible refine Kd.C_drewN ?_ _) | (with_reducible refine Kd.C_drew ?_)))
            (case side10 => exact (Kd.R_reads' HO219.out).2.1)
            (case side11 => repeat (first | exact (Kd.R_reads' HO222.out).2.2 | (with_reducible refine Kd.C_alloc ?_ _) | (with_reducible refine Kd.C_drewN ?_ _) | (with_reducible refine Kd.C_drew ?_)))
            (case side12 => exact (Kd.R_reads' HO222.out).2.1)
            (case side13 => repeat (first | exact (Kd.R_reads' HO225.out).2.2 | (with_reducible refine Kd.C_alloc ?_ _) | (with_reducible refine Kd.C_drewN ?_ _) | (with_reducible refine Kd.C_drew ?_)))
            (case side14 => exact (Kd.R_reads' HO225.out).2.1)
            (case side15 => repeat (first | exact (Kd.R_reads' HO228.out).2.2 | (with_reducible refine Kd.C_alloc ?_ _) | (with_reducible refine Kd.C_drewN ?_ _) | (with_reducible refine Kd.C_drew ?_)))
            (case side16 => exact (Kd.R_reads' HO228.out).2.1)
            rintro e w178 ⟨rfl, hb⟩
            refine ⟨_, rfl, ?_⟩
            have n0_ := Aside0.mk (Kd.R_below (rA HO167.out) hb)
            have n1_ := Aside0.mk (Kd.R_below (rA HO170.out) hb)
            have n2_ := Aside0.mk (Kd.R_below (rA HO173.out) hb)
            have n3_ := Aside0.mk (Kd.R_below (rA HO176.out) hb)
            have n4_ := Aside0.mk (Kd.R_below (rA HO179.out) hb)
            have n5_ := Aside0.mk (Kd.R_below (rA HO182.out) hb)
            have n6_ := Aside0.mk (Kd.R_below (rA HO185.out) hb)
            have n7_ := Aside0.mk (Kd.R_below (rA HO188.out) hb)
            have n8_ := Aside0.mk (Kd.R_below (rA HO192.out) hb)
            have n9_ := Aside0.mk (Kd.R_below (rA HO195.out) hb)
            have n10_ := Aside0.mk (Kd.R_below (rA HO198.out) hb)
            have n11_ := Aside0.mk (Kd.R_below (rA HO201.out) hb)
            have n12_ := Aside0.mk (Kd.R_below (rA HO205.out) hb)
            have n13_ := Aside0.mk (Kd.R_below (rA HO208.out) hb)
            have n14_ := Aside0.mk (Kd.R_below (rA HO211.out) hb)
            have n15_ := Aside0.mk (Kd.R_below (rA HO214.out) hb)
            have n16_ := Aside0.mk (Kd.R_below (rA HO219.out) hb)
            have n17_ := Aside0.mk (Kd.R_below (rA HO222.out) hb)
            have n18_ := Aside0.mk (Kd.R_below (rA HO225.out) hb)
            have n19_ := Aside0.mk (Kd.R_below (rA HO228.out) hb)
            have n20_ := Aside0.mk (blk_below (kA BK161.out) hb)
            have n21_ := Aside0.mk (blk_below (kA BK162.out) hb)
            have n22_ := Aside0.mk (blk_below (kA BK202.out) hb)
            have n23_ := Aside0.mk (blk_below (kA BK215.out) hb)
            have n24_ := Aside0.mk (below_step (bS HB.out) hb)
            clear HO167
            clear HO170
            clear HO173
            clear HO176
            clear HO179
            clear HO182
            clear HO185
            clear HO188
            clear HO192
            clear HO195
            clear HO198
            clear HO201
            clear HO205
            clear HO208
            clear HO211
            clear HO214
            clear HO219
            clear HO222
            clear HO225
            clear HO228
            clear BK161
            clear BK162
            clear BK202
            clear BK215
            clear HB
            have HO167 := n0_
            have HO170 := n1_
            have HO173 := n2_
            have HO176 := n3_
            have HO179 := n4_
            have HO182 := n5_
            have HO185 := n6_
            have HO188 := n7_
            have HO192 := n8_
            have HO195 := n9_
            have HO198 := n10_
            have HO201 := n11_
            have HO205 := n12_
            have HO208 := n13_
            have HO211 := n14_
            have HO214 := n15_
            have HO219 := n16_
            have HO222 := n17_
            have HO225 := n18_
            have HO228 := n19_
            have BK161 := n20_
            have BK162 := n21_
            have BK202 := n22_
            have BK215 := n23_
            have HB := n24_
            clear n0_ n1_ n2_ n3_ n4_ n5_ n6_ n7_ n8_ n9_ n10_ n11_ n12_ n13_ n14_ n15_ n16_ n17_ n18_ n19_ n20_ n21_ n22_ n23_ n24_
            (try clear hb)
            (try clear hb2)
            (try clear hk)
            (try clear hi)
            refine hK.out _ _ ⟨(blk_cell BK202.out 0).trans rfl, (blk_cell BK202.out 1).trans rfl, (blk_cell BK202.out 2).trans rfl, (blk_cell BK202.out 3).trans rfl, (blk_cell BK161.out 0).trans rfl, (blk_cell BK161.out 1).trans rfl, (blk_cell BK161.out 2).trans rfl, (blk_cell BK161.out 3).trans rfl⟩ (fun hHeld => ?_)
            clear hK K
            refine norm_ (a' := ?_) ?_ ?_
            rotate_left
            · show Act.put _ (some 38) _ = _
              simp only [Act.put, List.setIfInBounds_toArray, List.set_cons_zero, List.set_cons_succ, i64_w, i32_w]
              rfl
            refine pure_ (i := 4) (N := some 39) (v := ?_) (a' := ?_) #[true, true, true, true, true] rfl rfl (by kernel_rfl) (fun _ _ _ h => h) (Or.inl ⟨by rfl, ?_⟩) ?_ ?_
            rotate_left
            · intro w'
              go_simp
              with_reducible rfl
            rotate_left
            · simp only [Act.put, List.setIfInBounds_toArray, List.set_cons_zero, List.set_cons_succ, i64_w, i32_w]
              rfl
            refine done_ (by kernel_rfl) ?_
            try go_wp2
            have n0_ := Aside0.mk (Kd.R_drew HO167.out)
            have n1_ := Aside0.mk (Kd.R_drew HO170.out)
            have n2_ := Aside0.mk (Kd.R_drew HO173.out)
            have n3_ := Aside0.mk (Kd.R_drew HO176.out)
            have n4_ := Aside0.mk (Kd.R_drew HO179.out)
            have n5_ := Aside0.mk (Kd.R_drew HO182.out)
            have n6_ := Aside0.mk (Kd.R_drew HO185.out)
            have n7_ := Aside0.mk (Kd.R_drew HO188.out)
            have n8_ := Aside0.mk (Kd.R_drew HO192.out)
            have n9_ := Aside0.mk (Kd.R_drew HO195.out)
            have n10_ := Aside0.mk (Kd.R_drew HO198.out)
            have n11_ := Aside0.mk (Kd.R_drew HO201.out)
            have n12_ := Aside0.mk (Kd.R_drew HO205.out)
            have n13_ := Aside0.mk (Kd.R_drew HO208.out)
            have n14_ := Aside0.mk (Kd.R_drew HO211.out)
            have n15_ := Aside0.mk (Kd.R_drew HO214.out)
            have n16_ := Aside0.mk (Kd.R_drew HO219.out)
            have n17_ := Aside0.mk (Kd.R_drew HO222.out)
            have n18_ := Aside0.mk (Kd.R_drew HO225.out)
            have n19_ := Aside0.mk (Kd.R_drew HO228.out)
            have n20_ := Aside0.mk (blk_drew BK161.out)
            have n21_ := Aside0.mk (blk_drew BK162.out)
            have n22_ := Aside0.mk (blk_drew BK202.out)
            have n23_ := Aside0.mk (blk_drew BK215.out)
            have n24_ := Aside0.mk (below_drew1 HB.out)
            clear HO167
            clear HO170
            clear HO173
            clear HO176
            clear HO179
            clear HO182
            clear HO185
            clear HO188
            clear HO192
            clear HO195
            clear HO198
            clear HO201
            clear HO205
            clear HO208
            clear HO211
            clear HO214
            clear HO219
            clear HO222
            clear HO225
            clear HO228
            clear BK161
            clear BK162
            clear BK202
            clear BK215
            clear HB
            have HO167 := n0_
            have HO170 := n1_
            have HO173 := n2_
            have HO176 := n3_
            have HO179 := n4_
            have HO182 := n5_
            have HO185 := n6_
            have HO188 := n7_
            have HO192 := n8_
            have HO195 := n9_
            have HO198 := n10_
            have HO201 := n11_
            have HO205 := n12_
            have HO208 := n13_
            have HO211 := n14_
            have HO214 := n15_
            have HO219 := n16_
            have HO222 := n17_
            have HO225 := n18_
            have HO228 := n19_
            have BK161 := n20_
            have BK162 := n21_
            have BK202 := n22_
            have BK215 := n23_
            have HB := n24_
            clear n0_ n1_ n2_ n3_ n4_ n5_ n6_ n7_ n8_ n9_ n10_ n11_ n12_ n13_ n14_ n15_ n16_ n17_ n18_ n19_ n20_ n21_ n22_ n23_ n24_
            refine start_ (n := 5) (S := fun w' => w'.cell? ⟨gb215, 0, none⟩ = some (.slice Ao162 t203.length co162) ∧ w'.cell? ⟨gb215, 1, none⟩ = some (.slice Ao167 t206.length co167) ∧ w'.cell? ⟨gb215, 2, none⟩ = some (.slice Ao168 t209.length co168) ∧ w'.cell? ⟨gb215, 3, none⟩ = some (.slice Ao169 t212.length co169) ∧ w'.cell? ⟨gb162, 0, none⟩ = some (.slice A1_0 l1_0.length c1_0) ∧ w'.cell? ⟨gb162, 1, none⟩ = some (.slice A1_1 l1_1.length c1_1) ∧ w'.cell? ⟨gb162, 2, none⟩ = some (.slice A1_2 l1_2.length c1_2) ∧ w'.cell? ⟨gb162, 3, none⟩ = some (.slice A1_3 l1_3.length c1_3)) (ds := []) #[false, false, false, false, false] (by kernel_rfl) rfl rfl ⟨(blk_cell BK215.out 0).trans rfl, (blk_cell BK215.out 1).trans rfl, (blk_cell BK215.out 2).trans rfl, (blk_cell BK215.out 3).trans rfl, (blk_cell BK162.out 0).trans rfl, (blk_cell BK162.out 1).trans rfl, (blk_cell BK162.out 2).trans rfl, (blk_cell BK162.out 3).trans rfl⟩ (fun hHeld => ?_)
            generalize w178.drew = w179 at HO167 HO170 HO173 HO176 HO179 HO182 HO185 HO188 HO192 HO195 HO198 HO201 HO205 HO208 HO211 HO214 HO219 HO222 HO225 HO228 BK161 BK162 BK202 BK215 HB hHeld ⊢
            refine take_ (i := 0) (N := some 40) (v := ?_) (a' := ?_) #[true, false, false, false, false] rfl rfl (by kernel_rfl) (fun _ _ _ h => h) (Or.inl ⟨by rfl, ?_⟩) hHeld ?_ ?_
            rotate_left
            · rintro w' ⟨s0, s1, s2, s3, s4, s5, s6, s7⟩
              go_simp
              with_reducible rfl
            rotate_left
            · simp only [Act.put, List.setIfInBounds_toArray, List.set_cons_zero, List.set_cons_succ, i64_w, i32_w]
              rfl
            refine take_ (i := 1) (N := some 41) (v := ?_) (a' := ?_) #[true, true, false, false, false] rfl rfl (by kernel_rfl) (fun _ _ _ h => h) (Or.inl ⟨by rfl, ?_⟩) hHeld ?_ ?_
            rotate_left
            · rintro w' ⟨s0, s1, s2, s3, s4, s5, s6, s7⟩
              go_simp
              with_reducible rfl
            rotate_left
            · simp only [Act.put, List.setIfInBounds_toArray, List.set_cons_zero, List.set_cons_succ, i64_w, i32_w]
              rfl
            refine one_ (i := 2) (N := some 42) #[true, true, true, false, false] rfl rfl (by kernel_rfl) (by decide) (fun K hK => ?_)
            refine goes_ Try.func69 (by kernel_rfl) rfl #[.agg #[.slice A1_0 l1_0.length c1_0, .slice A1_1 l1_1.length c1_1, .slice A1_2 l1_2.length c1_2, .slice A1_3 l1_3.length c1_3]] (by rfl) rfl rfl (by (try simp only [List.map_toArray, List.map_cons, List.map_nil]); first | done | rfl | (simp only [List.length_drop, List.length_take]; rfl)) ?_
            with_reducible refine (laws_toDevice.calls k _ _ l1_0 _ _ l1_1 _ _ l1_2 _ _ l1_3 t230 t233 t236 t239 _ ?side1 ?side2 ?side3 ?side4 ?side5 ?side6 ?side7 ?side8 A71.out).mono ?_
            (case side1 => exact cB HR1_0.out HB.out)
            (case side2 => exact HC1_0.out)
            (case side3 => exact cB HR1_1.out HB.out)
            (case side4 => exact HC1_1.out)
            (case side5 => exact cB HR1_2.out HB.out)
            (case side6 => exact HC1_2.out)
            (case side7 => exact cB HR1_3.out HB.out)
            (case side8 => exact HC1_3.out)
            rintro e w180 ⟨v231, v234, v237, v240, rfl, ho0, ho1, ho2, ho3, hb⟩
            refine ⟨_, rfl, ?_⟩
            have n0_ := Aside0.mk (rM (Kd.R_told (Kd.R_told (Kd.R_old (rA HO167.out) hb) (Kd.R_base ho0)) (Kd.R_base ho1)))
            have n1_ := Aside0.mk (rM (Kd.R_told (Kd.R_told (Kd.R_old (rA HO170.out) hb) (Kd.R_base ho0)) (Kd.R_base ho1)))
            have n2_ := Aside0.mk (rM (Kd.R_told (Kd.R_told (Kd.R_old (rA HO173.out) hb) (Kd.R_base ho2)) (Kd.R_base ho3)))
            have n3_ := Aside0.mk (rM (Kd.R_told (Kd.R_told (Kd.R_old (rA HO176.out) hb) (Kd.R_base ho2)) (Kd.R_base ho3)))
            have n4_ := Aside0.mk (rM (Kd.R_told (Kd.R_told (Kd.R_old (rA HO179.out) hb) (Kd.R_base ho0)) (Kd.R_base ho1)))
            have n5_ := Aside0.mk (rM (Kd.R_told (Kd.R_told (Kd.R_old (rA HO182.out) hb) (Kd.R_base ho0)) (Kd.R_base ho1)))
            have n6_ := Aside0.mk (rM (Kd.R_told (Kd.R_told (Kd.R_old (rA HO185.out) hb) (Kd.R_base ho2)) (Kd.R_base ho3)))
            have n7_ := Aside0.mk (rM (Kd.R_told (Kd.R_told (Kd.R_old (rA HO188.out) hb) (Kd.R_base ho2)) (Kd.R_base ho3)))
            have n8_ := Aside0.mk (rM (Kd.R_told (Kd.R_told (Kd.R_old (rA HO192.out) hb) (Kd.R_base ho0)) (Kd.R_base ho1)))
            have n9_ := Aside0.mk (rM (Kd.R_told (Kd.R_told (Kd.R_old (rA HO195.out) hb) (Kd.R_base ho0)) (Kd.R_base ho1)))
            have n10_ := Aside0.mk (rM (Kd.R_told (Kd.R_told (Kd.R_old (rA HO198.out) hb) (Kd.R_base ho2)) (Kd.R_base ho3)))
            have n11_ := Aside0.mk (rM (Kd.R_told (Kd.R_told (Kd.R_old (rA HO201.out) hb) (Kd.R_base ho2)) (Kd.R_base ho3)))
            have n12_ := Aside0.mk (rM (Kd.R_told (Kd.R_told (Kd.R_old (rA HO205.out) hb) (Kd.R_base ho0)) (Kd.R_base ho1)))
            have n13_ := Aside0.mk (rM (Kd.R_told (Kd.R_told (Kd.R_old (rA HO208.out) hb) (Kd.R_base ho0)) (Kd.R_base ho1)))
            have n14_ := Aside0.mk (rM (Kd.R_told (Kd.R_told (Kd.R_old (rA HO211.out) hb) (Kd.R_base ho2)) (Kd.R_base ho3)))
            have n15_ := Aside0.mk (rM (Kd.R_told (Kd.R_told (Kd.R_old (rA HO214.out) hb) (Kd.R_base ho2)) (Kd.R_base ho3)))
            have n16_ := Aside0.mk (rM (Kd.R_told (Kd.R_told (Kd.R_old (rA HO219.out) hb) (Kd.R_base ho0)) (Kd.R_base ho1)))
            have n17_ := Aside0.mk (rM (Kd.R_told (Kd.R_told (Kd.R_old (rA HO222.out) hb) (Kd.R_base ho0)) (Kd.R_base ho1)))
            have n18_ := Aside0.mk (rM (Kd.R_told (Kd.R_told (Kd.R_old (rA HO225.out) hb) (Kd.R_base ho2)) (Kd.R_base ho3)))
            have n19_ := Aside0.mk (rM (Kd.R_told (Kd.R_told (Kd.R_old (rA HO228.out) hb) (Kd.R_base ho2)) (Kd.R_base ho3)))
            have n20_ := Aside0.mk (Kd.R_lower (Kd.R_new' (Kd.R_new' (Kd.R_new' (Kd.R_new' (Kd.R_new' (Kd.R_new' (Kd.R_new' (Kd.R_new' (Kd.R_new' (Kd.R_new' ho0 (Kd.R_lt (rA HO167.out))) (Kd.R_lt (rA HO170.out))) (Kd.R_lt (rA HO179.out))) (Kd.R_lt (rA HO182.out))) (Kd.R_lt (rA HO192.out))) (Kd.R_lt (rA HO195.out))) (Kd.R_lt (rA HO205.out))) (Kd.R_lt (rA HO208.out))) (Kd.R_lt (rA HO219.out))) (Kd.R_lt (rA HO222.out))) (below_size (bS HB.out)))
            have n21_ := Aside0.mk (Kd.R_lower (Kd.R_new' (Kd.R_new' (Kd.R_new' (Kd.R_new' (Kd.R_new' (Kd.R_new' (Kd.R_new' (Kd.R_new' (Kd.R_new' (Kd.R_new' ho1 (Kd.R_lt (rA HO167.out))) (Kd.R_lt (rA HO170.out))) (Kd.R_lt (rA HO179.out))) (Kd.R_lt (rA HO182.out))) (Kd.R_lt (rA HO192.out))) (Kd.R_lt (rA HO195.out))) (Kd.R_lt (rA HO205.out))) (Kd.R_lt (rA HO208.out))) (Kd.R_lt (rA HO219.out))) (Kd.R_lt (rA HO222.out))) (below_size (bS HB.out)))
            have n22_ := Aside0.mk (Kd.R_lower (Kd.R_new' (Kd.R_new' (Kd.R_new' (Kd.R_new' (Kd.R_new' (Kd.R_new' (Kd.R_new' (Kd.R_new' (Kd.R_new' (Kd.R_new' ho2 (Kd.R_lt (rA HO173.out))) (Kd.R_lt (rA HO176.out))) (Kd.R_lt (rA HO185.out))) (Kd.R_lt (rA HO188.out))) (Kd.R_lt (rA HO198.out))) (Kd.R_lt (rA HO201.out))) (Kd.R_lt (rA HO211.out))) (Kd.R_lt (rA HO214.out))) (Kd.R_lt (rA HO225.out))) (Kd.R_lt (rA HO228.out))) (below_size (bS HB.out)))
            have n23_ := Aside0.mk (Kd.R_lower (Kd.R_new' (Kd.R_new' (Kd.R_new' (Kd.R_new' (Kd.R_new' (Kd.R_new' (Kd.R_new' (Kd.R_new' (Kd.R_new' (Kd.R_new' ho3 (Kd.R_lt (rA HO173.out))) (Kd.R_lt (rA HO176.out))) (Kd.R_lt (rA HO185.out))) (Kd.R_lt (rA HO188.out))) (Kd.R_lt (rA HO198.out))) (Kd.R_lt (rA HO201.out))) (Kd.R_lt (rA HO211.out))) (Kd.R_lt (rA HO214.out))) (Kd.R_lt (rA HO225.out))) (Kd.R_lt (rA HO228.out))) (below_size (bS HB.out)))
            have n24_ := Aside0.mk (blk_below (kA BK161.out) hb)
            have n25_ := Aside0.mk (blk_below (kA BK162.out) hb)
            have n26_ := Aside0.mk (blk_below (kA BK202.out) hb)
            have n27_ := Aside0.mk (blk_below (kA BK215.out) hb)
            have n28_ := Aside0.mk (below_step (bS HB.out) hb)
            clear HO167
            clear HO170
            clear HO173
            clear HO176
            clear HO179
            clear HO182
            clear HO185
            clear HO188
            clear HO192
            clear HO195
            clear HO198
            clear HO201
            clear HO205
            clear HO208
            clear HO211
            clear HO214
            clear HO219
            clear HO222
            clear HO225
            clear HO228
            clear BK161
            clear BK162
            clear BK202
            clear BK215
            clear HB
            have HO167 := n0_
            have HO170 := n1_
            have HO173 := n2_
            have HO176 := n3_
            have HO179 := n4_
            have HO182 := n5_
            have HO185 := n6_
            have HO188 := n7_
            have HO192 := n8_
            have HO195 := n9_
            have HO198 := n10_
            have HO201 := n11_
            have HO205 := n12_
            have HO208 := n13_
            have HO211 := n14_
            have HO214 := n15_
            have HO219 := n16_
            have HO222 := n17_
            have HO225 := n18_
            have HO228 := n19_
            have HO232 := n20_
            have HO235 := n21_
            have HO238 := n22_
            have HO241 := n23_
            have BK161 := n24_
            have BK162 := n25_
            have BK202 := n26_
            have BK215 := n27_
            have HB := n28_
            clear n0_ n1_ n2_ n3_ n4_ n5_ n6_ n7_ n8_ n9_ n10_ n11_ n12_ n13_ n14_ n15_ n16_ n17_ n18_ n19_ n20_ n21_ n22_ n23_ n24_ n25_ n26_ n27_ n28_
            (try clear hb)
            (try clear hb2)
            (try clear hk)
            (try clear hi)
            (try clear ho0)
            (try clear ho1)
            (try clear ho2)
            (try clear ho3)
            obtain ⟨Ao181, co181, eo181⟩ := Kd.R_slice HO232.out
            (first | subst eo181 | (injection eo181 with f1_ f2_ f3_; have f4_ := f1_.symm; have f5_ := f3_.symm; clear f1_ f2_ f3_; subst f4_; subst f5_))
            obtain ⟨Ao182, co182, eo182⟩ := Kd.R_slice HO235.out
            (first | subst eo182 | (injection eo182 with f1_ f2_ f3_; have f4_ := f1_.symm; have f5_ := f3_.symm; clear f1_ f2_ f3_; subst f4_; subst f5_))
            obtain ⟨Ao183, co183, eo183⟩ := Kd.R_slice HO238.out
            (first | subst eo183 | (injection eo183 with f1_ f2_ f3_; have f4_ := f1_.symm; have f5_ := f3_.symm; clear f1_ f2_ f3_; subst f4_; subst f5_))
            obtain ⟨Ao184, co184, eo184⟩ := Kd.R_slice HO241.out
            (first | subst eo184 | (injection eo184 with f1_ f2_ f3_; have f4_ := f1_.symm; have f5_ := f3_.symm; clear f1_ f2_ f3_; subst f4_; subst f5_))
            refine hK.out _ _ ⟨(blk_cell BK215.out 0).trans rfl, (blk_cell BK215.out 1).trans rfl, (blk_cell BK215.out 2).trans rfl, (blk_cell BK215.out 3).trans rfl, (blk_cell BK162.out 0).trans rfl, (blk_cell BK162.out 1).trans rfl, (blk_cell BK162.out 2).trans rfl, (blk_cell BK162.out 3).trans rfl⟩ (fun hHeld => ?_)
            clear hK K
            refine norm_ (a' := ?_) ?_ ?_
            rotate_left
            · show Act.put _ (some 42) _ = _
              simp only [Act.put, List.setIfInBounds_toArray, List.set_cons_zero, List.set_cons_succ, i64_w, i32_w]
              rfl
            refine one_ (i := 3) (N := some 43) #[true, true, true, true, false] rfl rfl (by kernel_rfl) (by decide) (fun K hK => ?_)
            refine goes_ Try.func61 (by kernel_rfl) rfl #[.agg #[.slice Ao162 t203.length co162, .slice Ao167 t206.length co167, .slice Ao168 t209.length co168, .slice Ao169 t212.length co169], .agg #[.slice Ao181 t230.length co181, .slice Ao182 t233.length co182, .slice Ao183 t236.length co183, .slice Ao184 t239.length co184]] (by rfl) rfl rfl (by (try simp only [List.map_toArray, List.map_cons, List.map_nil]); first | done | rfl | (simp only [List.length_drop, List.length_take]; rfl)) ?_
            with_reducible refine (laws_eqDevice.calls k _ _ t203 _ _ t206 _ _ t209 _ _ t212 _ _ t230 _ _ t233 _ _ t236 _ _ t239 false _ ?side1 ?side2 ?side3 ?side4 ?side5 ?side6 ?side7 ?side8 ?side9 ?side10 ?side11 ?side12 ?side13 ?side14 ?side15 ?side16 A72.out).mono ?_
            (case side1 => repeat (first | exact (Kd.R_reads' HO205.out).2.2 | (with_reducible refine Kd.C_alloc ?_ _) | (with_reducible refine Kd.C_drewN ?_ _) | (with_reducible refine Kd.C_drew ?_)))
            (case side2 => exact (Kd.R_reads' HO205.out).2.1)
            (case side3 => repeat (first | exact (Kd.R_reads' HO208.out).2.2 | (with_reducible refine Kd.C_alloc ?_ _) | (with_reducible refine Kd.C_drewN ?_ _) | (with_reducible refine Kd.C_drew ?_)))
            (case side4 => exact (Kd.R_reads' HO208.out).2.1)
            (case side5 => repeat (first | exact (Kd.R_reads' HO211.out).2.2 | (with_reducible refine Kd.C_alloc ?_ _) | (with_reducible refine Kd.C_drewN ?_ _) | (with_reducible refine Kd.C_drew ?_)))
            (case side6 => exact (Kd.R_reads' HO211.out).2.1)
            (case side7 => repeat (first | exact (Kd.R_reads' HO214.out).2.2 | (with_reducible refine Kd.C_alloc ?_ _) | (with_reducible refine Kd.C_drewN ?_ _) | (with_reducible refine Kd.C_drew ?_)))
            (case side8 => exact (Kd.R_reads' HO214.out).2.1)
            (case side9 => repeat (first | exact (Kd.R_reads' HO232.out).2.2 | (with_reducible refine Kd.C_alloc ?_ _) | (with_reducible refine Kd.C_drewN ?_ _) | (with_reducible refine Kd.C_drew ?_)))
            (case side10 => exact (Kd.R_reads' HO232.out).2.1)
            (case side11 => repeat (first | exact (Kd.R_reads' HO235.out).2.2 | (with_reducible refine Kd.C_alloc ?_ _) | (with_reducible refine Kd.C_drewN ?_ _) | (with_reducible refine Kd.C_drew ?_)))
            (case side12 => exact (Kd.R_reads' HO235.out).2.1)
            (case side13 => repeat (first | exact (Kd.R_reads' HO238.out).2.2 | (with_reducible refine Kd.C_alloc ?_ _) | (with_reducible refine Kd.C_drewN ?_ _) | (with_reducible refine Kd.C_drew ?_)))
            (case side14 => exact (Kd.R_reads' HO238.out).2.1)
            (case side15 => repeat (first | exact (Kd.R_reads' HO241.out).2.2 | (with_reducible refine Kd.C_alloc ?_ _) | (with_reducible refine Kd.C_drewN ?_ _) | (with_reducible refine Kd.C_drew ?_)))
            (case side16 => exact (Kd.R_reads' HO241.out).2.1)
            rintro e w185 ⟨rfl, hb⟩
            refine ⟨_, rfl, ?_⟩
            have n0_ := Aside0.mk (Kd.R_below (rA HO167.out) hb)
            have n1_ := Aside0.mk (Kd.R_below (rA HO170.out) hb)
            have n2_ := Aside0.mk (Kd.R_below (rA HO173.out) hb)
            have n3_ := Aside0.mk (Kd.R_below (rA HO176.out) hb)
            have n4_ := Aside0.mk (Kd.R_below (rA HO179.out) hb)
            have n5_ := Aside0.mk (Kd.R_below (rA HO182.out) hb)
            have n6_ := Aside0.mk (Kd.R_below (rA HO185.out) hb)
            have n7_ := Aside0.mk (Kd.R_below (rA HO188.out) hb)
            have n8_ := Aside0.mk (Kd.R_below (rA HO192.out) hb)
            have n9_ := Aside0.mk (Kd.R_below (rA HO195.out) hb)
            have n10_ := Aside0.mk (Kd.R_below (rA HO198.out) hb)
            have n11_ := Aside0.mk (Kd.R_below (rA HO201.out) hb)
            have n12_ := Aside0.mk (Kd.R_below (rA HO205.out) hb)
            have n13_ := Aside0.mk (Kd.R_below (rA HO208.out) hb)
            have n14_ := Aside0.mk (Kd.R_below (rA HO211.out) hb)
            have n15_ := Aside0.mk (Kd.R_below (rA HO214.out) hb)
            have n16_ := Aside0.mk (Kd.R_below (rA HO219.out) hb)
            have n17_ := Aside0.mk (Kd.R_below (rA HO222.out) hb)
            have n18_ := Aside0.mk (Kd.R_below (rA HO225.out) hb)
            have n19_ := Aside0.mk (Kd.R_below (rA HO228.out) hb)
            have n20_ := Aside0.mk (Kd.R_below (rA HO232.out) hb)
            have n21_ := Aside0.mk (Kd.R_below (rA HO235.out) hb)
            have n22_ := Aside0.mk (Kd.R_below (rA HO238.out) hb)
            have n23_ := Aside0.mk (Kd.R_below (rA HO241.out) hb)
            have n24_ := Aside0.mk (blk_below (kA BK161.out) hb)
            have n25_ := Aside0.mk (blk_below (kA BK162.out) hb)
            have n26_ := Aside0.mk (blk_below (kA BK202.out) hb)
            have n27_ := Aside0.mk (blk_below (kA BK215.out) hb)
            have n28_ := Aside0.mk (below_step (bS HB.out) hb)
            clear HO167
            clear HO170
            clear HO173
            clear HO176
            clear HO179
            clear HO182
            clear HO185
            clear HO188
            clear HO192
            clear HO195
            clear HO198
            clear HO201
            clear HO205
            clear HO208
            clear HO211
            clear HO214
            clear HO219
            clear HO222
            clear HO225
            clear HO228
            clear HO232
            clear HO235
            clear HO238
            clear HO241
            clear BK161
            clear BK162
            clear BK202
            clear BK215
            clear HB
            have HO167 := n0_
            have HO170 := n1_
            have HO173 := n2_
            have HO176 := n3_
            have HO179 := n4_
            have HO182 := n5_
            have HO185 := n6_
            have HO188 := n7_
            have HO192 := n8_
            have HO195 := n9_
            have HO198 := n10_
            have HO201 := n11_
            have HO205 := n12_
            have HO208 := n13_
            have HO211 := n14_
            have HO214 := n15_
            have HO219 := n16_
            have HO222 := n17_
            have HO225 := n18_
            have HO228 := n19_
            have HO232 := n20_
            have HO235 := n21_
            have HO238 := n22_
            have HO241 := n23_
            have BK161 := n24_
            have BK162 := n25_
            have BK202 := n26_
            have BK215 := n27_
            have HB := n28_
            clear n0_ n1_ n2_ n3_ n4_ n5_ n6_ n7_ n8_ n9_ n10_ n11_ n12_ n13_ n14_ n15_ n16_ n17_ n18_ n19_ n20_ n21_ n22_ n23_ n24_ n25_ n26_ n27_ n28_
            (try clear hb)
            (try clear hb2)
            (try clear hk)
            (try clear hi)
            refine hK.out _ _ ⟨(blk_cell BK215.out 0).trans rfl, (blk_cell BK215.out 1).trans rfl, (blk_cell BK215.out 2).trans rfl, (blk_cell BK215.out 3).trans rfl, (blk_cell BK162.out 0).trans rfl, (blk_cell BK162.out 1).trans rfl, (blk_cell BK162.out 2).trans rfl, (blk_cell BK162.out 3).trans rfl⟩ (fun hHeld => ?_)
            clear hK K
            refine norm_ (a' := ?_) ?_ ?_
            rotate_left
            · show Act.put _ (some 43) _ = _
              simp only [Act.put, List.setIfInBounds_toArray, List.set_cons_zero, List.set_cons_succ, i64_w, i32_w]
              rfl
            refine pure_ (i := 4) (N := some 44) (v := ?_) (a' := ?_) #[true, true, true, true, true] rfl rfl (by kernel_rfl) (fun _ _ _ h => h) (Or.inl ⟨by rfl, ?_⟩) ?_ ?_
            rotate_left
            · intro w'
              go_simp
              with_reducible rfl
            rotate_left
            · simp only [Act.put, List.setIfInBounds_toArray, List.set_cons_zero, List.set_cons_succ, i64_w, i32_w]
              rfl
            refine done_ (by kernel_rfl) ?_
            try go_wp2
            go_ret
            exact ⟨by first | rfl | (simp [errW_none, errW_some] <;> rfl) | (simp [*, errW_none, errW_some] <;> rfl), by repeat (first | (with_reducible first | exact HB.out | apply below_alloc | apply pw_below_drewN | apply below_drew1 | refine below_set ?_ GE161.out | refine below_set ?_ GE162.out | refine below_set ?_ GE202.out | refine below_set ?_ GE215.out) | exact HB.out)⟩
        · replace c70 := Bool.eq_false_iff.mpr c70
          subst c70
          have H1 : (some false) = some r := by rw [if_neg (show ¬ (false = true) by decide)] at H; exact H
          clear H
          have H := H1
          clear H1
          obtain rfl := Option.some.inj H
          go_enter Try.func16, Try.ntmps16
          try go_wp2_with (first | ((with_reducible refine gate_dst (N := 2) rfl ?_); refine box_event ?hg (N := 2) ?hd (cs := #[.slice A0_0 l0_0.length c0_0, .slice A0_1 l0_1.length c0_1, .slice A0_2 l0_2.length c0_2, .slice A0_3 l0_3.length c0_3]) (t := 81) ?hr ?_; (case hd => rfl); (case hg => rfl); (case hr => first | (go_simp; done) | (go_simp; rfl)); intro gb161 hg w186 hbox hb; have n0_ := Aside0.mk (below_step (bS HB.out) hb); have n1_ := Aside0.mk (hbox); have n2_ := Aside0.mk ((by rw [hg]; exact (below_size (bS HB.out)) : w.heap.size ≤ gb161)); have n3_ := n2_; clear HB; have HB := n0_; have BK161 := n1_; have GW161 := n2_; have GE161 := n3_; clear n0_ n1_ n2_ n3_; clear hb hbox hg) | ((with_reducible refine gate_dst (N := 3) rfl ?_); refine box_event ?hg (N := 3) ?hd (cs := #[.slice A1_0 l1_0.length c1_0, .slice A1_1 l1_1.length c1_1, .slice A1_2 l1_2.length c1_2, .slice A1_3 l1_3.length c1_3]) (t := 81) ?hr ?_; (case hd => rfl); (case hg => rfl); (case hr => first | (go_simp; done) | (go_simp; rfl)); intro gb162 hg w187 hbox hb; have n0_ := Aside0.mk (blk_below (kA BK161.out) hb); have n1_ := Aside0.mk (below_step (bS HB.out) hb); have n2_ := Aside0.mk (hbox); have n3_ := Aside0.mk ((by rw [hg]; exact (below_size (bS HB.out)) : w.heap.size ≤ gb162)); have n4_ := n3_; have n5_ := Aside0.mk ((by rw [hg]; exact Nat.ne_of_lt (blk_lt (g := gb161) (o := .cells #[.slice A0_0 l0_0.length c0_0, .slice A0_1 l0_1.length c0_1, .slice A0_2 l0_2.length c0_2, .slice A0_3 l0_3.length c0_3] 81 (0, 0)) (kA BK161.out)) : gb161 ≠ gb162)); have n6_ := Aside0.mk ((by rw [hg]; exact Nat.ne_of_gt (blk_lt (g := gb161) (o := .cells #[.slice A0_0 l0_0.length c0_0, .slice A0_1 l0_1.length c0_1, .slice A0_2 l0_2.length c0_2, .slice A0_3 l0_3.length c0_3] 81 (0, 0)) (kA BK161.out)) : gb162 ≠ gb161)); clear BK161 HB; have BK161 := n0_; have HB := n1_; have BK162 := n2_; have GW162 := n3_; have GE162 := n4_; have NB161_162 := n5_; have NB162_161 := n6_; clear n0_ n1_ n2_ n3_ n4_ n5_ n6_; clear hb hbox hg; have hnb188 := NB161_162.out; have hnc188 := NB162_161.out; obtain ⟨hcz189_0, hfz189_0, hcz189_1, hfz189_1, hcz189_2, hfz189_2, hcz189_3, hfz189_3⟩ := bk4 BK161.out) | ((with_reducible refine gate_callee (f := 67) rfl ?_); refine gL (some 12) rfl rfl Try.func67 (by kernel_rfl) rfl #[.agg #[.slice A0_0 l0_0.length c0_0, .slice A0_1 l0_1.length c0_1, .slice A0_2 l0_2.length c0_2, .slice A0_3 l0_3.length c0_3], .int .i64 1048576] rfl ?_; (with_reducible refine (laws_szDevice.calls _ _ l0_0 _ _ l0_1 _ _ l0_2 _ _ l0_3 1048576 t163 _ ?side1 ?side2 ?side3 ?side4 ?side5 ?side6 ?side7 ?side8 A3.out).mono ?_); (case side1 => exact cB HR0_0.out HB.out); (case side2 => exact HC0_0.out); (case side3 => exact cB HR0_1.out HB.out); (case side4 => exact HC0_1.out); (case side5 => exact cB HR0_2.out HB.out); (case side6 => exact HC0_2.out); (case side7 => exact cB HR0_3.out HB.out); (case side8 => exact HC0_3.out); rintro e w190 ⟨rfl, hb⟩; refine ⟨_, rfl, ?_⟩; have n0_ := Aside0.mk (blk_below (kA BK161.out) hb); have n1_ := Aside0.mk (blk_below (kA BK162.out) hb); have n2_ := Aside0.mk (below_step (bS HB.out) hb); clear BK161 BK162 HB; have BK161 := n0_; have BK162 := n1_; have HB := n2_; clear n0_ n1_ n2_; (try clear hb); (try clear hk); (try clear hi); obtain ⟨hcz191_0, hfz191_0, hcz191_1, hfz191_1, hcz191_2, hfz191_2, hcz191_3, hfz191_3⟩ := bk4 BK162.out) | ((with_reducible refine gate_callee (f := 67) rfl ?_); refine gL (some 17) rfl rfl Try.func67 (by kernel_rfl) rfl #[.agg #[.slice A1_0 l1_0.length c1_0, .slice A1_1 l1_1.length c1_1, .slice A1_2 l1_2.length c1_2, .slice A1_3 l1_3.length c1_3], .int .i64 t163] rfl ?_; (with_reducible refine (laws_szDevice.calls _ _ l1_0 _ _ l1_1 _ _ l1_2 _ _ l1_3 t163 t164 _ ?side1 ?side2 ?side3 ?side4 ?side5 ?side6 ?side7 ?side8 A10.out).mono ?_); (case side1 => exact cB HR1_0.out HB.out); (case side2 => exact HC1_0.out); (case side3 => exact cB HR1_1.out HB.out); (case side4 => exact HC1_1.out); (case side5 => exact cB HR1_2.out HB.out); (case side6 => exact HC1_2.out); (case side7 => exact cB HR1_3.out HB.out); (case side8 => exact HC1_3.out); rintro e w192 ⟨rfl, hb⟩; refine ⟨_, rfl, ?_⟩; have n0_ := Aside0.mk (blk_below (kA BK161.out) hb); have n1_ := Aside0.mk (blk_below (kA BK162.out) hb); have n2_ := Aside0.mk (below_step (bS HB.out) hb); clear BK161 BK162 HB; have BK161 := n0_; have BK162 := n1_; have HB := n2_; clear n0_ n1_ n2_; (try clear hb); (try clear hk); (try clear hi)))
          have n0_ := Aside0.mk (blk_drew BK161.out)
          have n1_ := Aside0.mk (blk_drew BK162.out)
          have n2_ := Aside0.mk (below_drew1 HB.out)
          clear BK161
          clear BK162
          clear HB
          have BK161 := n0_
          have BK162 := n1_
          have HB := n2_
          clear n0_ n1_ n2_
          refine start_ (n := 6) (S := fun w' => w'.cell? ⟨gb161, 0, none⟩ = some (.slice A0_0 l0_0.length c0_0) ∧ w'.cell? ⟨gb161, 1, none⟩ = some (.slice A0_1 l0_1.length c0_1) ∧ w'.cell? ⟨gb161, 2, none⟩ = some (.slice A0_2 l0_2.length c0_2) ∧ w'.cell? ⟨gb161, 3, none⟩ = some (.slice A0_3 l0_3.length c0_3) ∧ w'.cell? ⟨gb162, 0, none⟩ = some (.slice A1_0 l1_0.length c1_0) ∧ w'.cell? ⟨gb162, 1, none⟩ = some (.slice A1_1 l1_1.length c1_1) ∧ w'.cell? ⟨gb162, 2, none⟩ = some (.slice A1_2 l1_2.length c1_2) ∧ w'.cell? ⟨gb162, 3, none⟩ = some (.slice A1_3 l1_3.length c1_3)) (ds := []) #[false, false, false, false, false, false] (by kernel_rfl) rfl rfl ⟨(blk_cell BK161.out 0).trans rfl, (blk_cell BK161.out 1).trans rfl, (blk_cell BK161.out 2).trans rfl, (blk_cell BK161.out 3).trans rfl, (blk_cell BK162.out 0).trans rfl, (blk_cell BK162.out 1).trans rfl, (blk_cell BK162.out 2).trans rfl, (blk_cell BK162.out 3).trans rfl⟩ (fun hHeld => ?_)
          generalize w192.drew = w193 at BK161 BK162 HB hHeld ⊢
          refine take_ (i := 0) (N := some 20) (v := ?_) (a' := ?_) #[true, false, false, false, false, false] rfl rfl (by kernel_rfl) (fun _ _ _ h => h) (Or.inl ⟨by rfl, ?_⟩) hHeld ?_ ?_
          rotate_left
          · rintro w' ⟨s0, s1, s2, s3, s4, s5, s6, s7⟩
            go_simp
            with_reducible rfl
          rotate_left
          · simp only [Act.put, List.setIfInBounds_toArray, List.set_cons_zero, List.set_cons_succ, i64_w, i32_w]
            rfl
          refine take_ (i := 2) (N := some 22) (v := ?_) (a' := ?_) #[true, false, true, false, false, false] rfl rfl (by kernel_rfl) (fun _ _ _ h => h) (Or.inl ⟨by rfl, ?_⟩) hHeld ?_ ?_
          rotate_left
          · rintro w' ⟨s0, s1, s2, s3, s4, s5, s6, s7⟩
            go_simp
            with_reducible rfl
          rotate_left
          · simp only [Act.put, List.setIfInBounds_toArray, List.set_cons_zero, List.set_cons_succ, i64_w, i32_w]
            rfl
          refine one_ (i := 1) (N := some 21) #[true, true, true, false, false, false] rfl rfl (by kernel_rfl) (by decide) (fun K hK => ?_)
          refine goes_ Try.func69 (by kernel_rfl) rfl #[.agg #[.slice A0_0 l0_0.length c0_0, .slice A0_1 l0_1.length c0_1, .slice A0_2 l0_2.length c0_2, .slice A0_3 l0_3.length c0_3]] (by rfl) rfl rfl (by (try simp only [List.map_toArray, List.map_cons, List.map_nil]); first | done | rfl | (simp only [List.length_drop, List.length_take]; rfl)) ?_
          with_reducible refine (laws_toDevice.calls k _ _ l0_0 _ _ l0_1 _ _ l0_2 _ _ l0_3 t165 t168 t171 t174 _ ?side1 ?side2 ?side3 ?side4 ?side5 ?side6 ?side7 ?side8 A19.out).mono ?_
          (case side1 => exact cB HR0_0.out HB.out)
          (case side2 => exact HC0_0.out)
          (case side3 => exact cB HR0_1.out HB.out)
          (case side4 => exact HC0_1.out)
          (case side5 => exact cB HR0_2.out HB.out)
          (case side6 => exact HC0_2.out)
          (case side7 => exact cB HR0_3.out HB.out)
          (case side8 => exact HC0_3.out)
          rintro e w194 ⟨v166, v169, v172, v175, rfl, ho0, ho1, ho2, ho3, hb⟩
          refine ⟨_, rfl, ?_⟩
          have n0_ := Aside0.mk (Kd.R_lower ho0 (below_size (bS HB.out)))
          have n1_ := Aside0.mk (Kd.R_lower ho1 (below_size (bS HB.out)))
          have n2_ := Aside0.mk (Kd.R_lower ho2 (below_size (bS HB.out)))
          have n3_ := Aside0.mk (Kd.R_lower ho3 (below_size (bS HB.out)))
          have n4_ := Aside0.mk (blk_below (kA BK161.out) hb)
          have n5_ := Aside0.mk (blk_below (kA BK162.out) hb)
          have n6_ := Aside0.mk (below_step (bS HB.out) hb)
          clear BK161
          clear BK162
          clear HB
          have HO167 := n0_
          have HO170 := n1_
          have HO173 := n2_
          have HO176 := n3_
          have BK161 := n4_
          have BK162 := n5_
          have HB := n6_
          clear n0_ n1_ n2_ n3_ n4_ n5_ n6_
          (try clear hb)
          (try clear hb2)
          (try clear hk)
          (try clear hi)
          (try clear ho0)
          (try clear ho1)
          (try clear ho2)
          (try clear ho3)
          refine hK.out _ _ ⟨(blk_cell BK161.out 0).trans rfl, (blk_cell BK161.out 1).trans rfl, (blk_cell BK161.out 2).trans rfl, (blk_cell BK161.out 3).trans rfl, (blk_cell BK162.out 0).trans rfl, (blk_cell BK162.out 1).trans rfl, (blk_cell BK162.out 2).trans rfl, (blk_cell BK162.out 3).trans rfl⟩ (fun hHeld => ?_)
          clear hK K
          refine norm_ (a' := ?_) ?_ ?_
          rotate_left
          · show Act.put _ (some 21) _ = _
            simp only [Act.put, List.setIfInBounds_toArray, List.set_cons_zero, List.set_cons_succ, i64_w, i32_w]
            rfl
          refine one_ (i := 3) (N := some 23) #[true, true, true, true, false, false] rfl rfl (by kernel_rfl) (by decide) (fun K hK => ?_)
          refine goes_ Try.func69 (by kernel_rfl) rfl #[.agg #[.slice A1_0 l1_0.length c1_0, .slice A1_1 l1_1.length c1_1, .slice A1_2 l1_2.length c1_2, .slice A1_3 l1_3.length c1_3]] (by rfl) rfl rfl (by (try simp only [List.map_toArray, List.map_cons, List.map_nil]); first | done | rfl | (simp only [List.length_drop, List.length_take]; rfl)) ?_
          with_reducible refine (laws_toDevice.calls k _ _ l1_0 _ _ l1_1 _ _ l1_2 _ _ l1_3 t177 t180 t183 t186 _ ?side1 ?side2 ?side3 ?side4 ?side5 ?side6 ?side7 ?side8 A20.out).mono ?_
          (case side1 => exact cB HR1_0.out HB.out)
          (case side2 => exact HC1_0.out)
          (case side3 => exact cB HR1_1.out HB.out)
          (case side4 => exact HC1_1.out)
          (case side5 => exact cB HR1_2.out HB.out)
          (case side6 => exact HC1_2.out)
          (case side7 => exact cB HR1_3.out HB.out)
          (case side8 => exact HC1_3.out)
          rintro e w195 ⟨v178, v181, v184, v187, rfl, ho0, ho1, ho2, ho3, hb⟩
          refine ⟨_, rfl, ?_⟩
          have n0_ := Aside0.mk (rM (Kd.R_told (Kd.R_told (Kd.R_old (rA HO167.out) hb) (Kd.R_base ho0)) (Kd.R_base ho1)))
          have n1_ := Aside0.mk (rM (Kd.R_told (Kd.R_told (Kd.R_old (rA HO170.out) hb) (Kd.R_base ho0)) (Kd.R_base ho1)))
          have n2_ := Aside0.mk (rM (Kd.R_told (Kd.R_told (Kd.R_old (rA HO173.out) hb) (Kd.R_base ho2)) (Kd.R_base ho3)))
          have n3_ := Aside0.mk (rM (Kd.R_told (Kd.R_told (Kd.R_old (rA HO176.out) hb) (Kd.R_base ho2)) (Kd.R_base ho3)))
          have n4_ := Aside0.mk (Kd.R_lower (Kd.R_new' (Kd.R_new' ho0 (Kd.R_lt (rA HO167.out))) (Kd.R_lt (rA HO170.out))) (below_size (bS HB.out)))
          have n5_ := Aside0.mk (Kd.R_lower (Kd.R_new' (Kd.R_new' ho1 (Kd.R_lt (rA HO167.out))) (Kd.R_lt (rA HO170.out))) (below_size (bS HB.out)))
          have n6_ := Aside0.mk (Kd.R_lower (Kd.R_new' (Kd.R_new' ho2 (Kd.R_lt (rA HO173.out))) (Kd.R_lt (rA HO176.out))) (below_size (bS HB.out)))
          have n7_ := Aside0.mk (Kd.R_lower (Kd.R_new' (Kd.R_new' ho3 (Kd.R_lt (rA HO173.out))) (Kd.R_lt (rA HO176.out))) (below_size (bS HB.out)))
          have n8_ := Aside0.mk (blk_below (kA BK161.out) hb)
          have n9_ := Aside0.mk (blk_below (kA BK162.out) hb)
          have n10_ := Aside0.mk (below_step (bS HB.out) hb)
          clear HO167
          clear HO170
          clear HO173
          clear HO176
          clear BK161
          clear BK162
          clear HB
          have HO167 := n0_
          have HO170 := n1_
          have HO173 := n2_
          have HO176 := n3_
          have HO179 := n4_
          have HO182 := n5_
          have HO185 := n6_
          have HO188 := n7_
          have BK161 := n8_
          have BK162 := n9_
          have HB := n10_
          clear n0_ n1_ n2_ n3_ n4_ n5_ n6_ n7_ n8_ n9_ n10_
          (try clear hb)
          (try clear hb2)
          (try clear hk)
          (try clear hi)
          (try clear ho0)
          (try clear ho1)
          (try clear ho2)
          (try clear ho3)
          obtain ⟨Ao196, co196, eo196⟩ := Kd.R_slice HO167.out
          (first | subst eo196 | (injection eo196 with f1_ f2_ f3_; have f4_ := f1_.symm; have f5_ := f3_.symm; clear f1_ f2_ f3_; subst f4_; subst f5_))
          obtain ⟨Ao197, co197, eo197⟩ := Kd.R_slice HO170.out
          (first | subst eo197 | (injection eo197 with f1_ f2_ f3_; have f4_ := f1_.symm; have f5_ := f3_.symm; clear f1_ f2_ f3_; subst f4_; subst f5_))
          obtain ⟨Ao198, co198, eo198⟩ := Kd.R_slice HO173.out
          (first | subst eo198 | (injection eo198 with f1_ f2_ f3_; have f4_ := f1_.symm; have f5_ := f3_.symm; clear f1_ f2_ f3_; subst f4_; subst f5_))
          obtain ⟨Ao199, co199, eo199⟩ := Kd.R_slice HO176.out
          (first | subst eo199 | (injection eo199 with f1_ f2_ f3_; have f4_ := f1_.symm; have f5_ := f3_.symm; clear f1_ f2_ f3_; subst f4_; subst f5_))
          obtain ⟨Ao200, co200, eo200⟩ := Kd.R_slice HO179.out
          (first | subst eo200 | (injection eo200 with f1_ f2_ f3_; have f4_ := f1_.symm; have f5_ := f3_.symm; clear f1_ f2_ f3_; subst f4_; subst f5_))
          obtain ⟨Ao201, co201, eo201⟩ := Kd.R_slice HO182.out
          (first | subst eo201 | (injection eo201 with f1_ f2_ f3_; have f4_ := f1_.symm; have f5_ := f3_.symm; clear f1_ f2_ f3_; subst f4_; subst f5_))
          obtain ⟨Ao202, co202, eo202⟩ := Kd.R_slice HO185.out
          (first | subst eo202 | (injection eo202 with f1_ f2_ f3_; have f4_ := f1_.symm; have f5_ := f3_.symm; clear f1_ f2_ f3_; subst f4_; subst f5_))
          obtain ⟨Ao203, co203, eo203⟩ := Kd.R_slice HO188.out
          (first | subst eo203 | (injection eo203 with f1_ f2_ f3_; have f4_ := f1_.symm; have f5_ := f3_.symm; clear f1_ f2_ f3_; subst f4_; subst f5_))
          refine hK.out _ _ ⟨(blk_cell BK161.out 0).trans rfl, (blk_cell BK161.out 1).trans rfl, (blk_cell BK161.out 2).trans rfl, (blk_cell BK161.out 3).trans rfl, (blk_cell BK162.out 0).trans rfl, (blk_cell BK162.out 1).trans rfl, (blk_cell BK162.out 2).trans rfl, (blk_cell BK162.out 3).trans rfl⟩ (fun hHeld => ?_)
          clear hK K
          refine norm_ (a' := ?_) ?_ ?_
          rotate_left
          · show Act.put _ (some 23) _ = _
            simp only [Act.put, List.setIfInBounds_toArray, List.set_cons_zero, List.set_cons_succ, i64_w, i32_w]
            rfl
          refine one_ (i := 4) (N := some 24) #[true, true, true, true, true, false] rfl rfl (by kernel_rfl) (by decide) (fun K hK => ?_)
          refine goes_ Try.func72 (by kernel_rfl) rfl #[.agg #[.slice Ao196 t165.length co196, .slice Ao197 t168.length co197, .slice Ao198 t171.length co198, .slice Ao199 t174.length co199], .agg #[.slice Ao200 t177.length co200, .slice Ao201 t180.length co201, .slice Ao202 t183.length co202, .slice Ao203 t186.length co203]] (by rfl) rfl rfl (by (try simp only [List.map_toArray, List.map_cons, List.map_nil]); first | done | rfl | (simp only [List.length_drop, List.length_take]; rfl)) ?_
          with_reducible refine (spec_SameDevice.calls k _ _ t165 _ _ t168 _ _ t171 _ _ t174 _ _ t177 _ _ t180 _ _ t183 _ _ t186 t189 _ ?side1 ?side2 ?side3 ?side4 ?side5 ?side6 ?side7 ?side8 ?side9 ?side10 ?side11 ?side12 ?side13 ?side14 ?side15 ?side16 A21.out).mono ?_
          (case side1 => repeat (first | exact (Kd.R_reads' HO167.out).2.2 | (with_reducible refine Kd.C_alloc ?_ _) | (with_reducible refine Kd.C_drewN ?_ _) | (with_reducible refine Kd.C_drew ?_)))
          (case side2 => exact (Kd.R_reads' HO167.out).2.1)
          (case side3 => repeat (first | exact (Kd.R_reads' HO170.out).2.2 | (with_reducible refine Kd.C_alloc ?_ _) | (with_reducible refine Kd.C_drewN ?_ _) | (with_reducible refine Kd.C_drew ?_)))
          (case side4 => exact (Kd.R_reads' HO170.out).2.1)
          (case side5 => repeat (first | exact (Kd.R_reads' HO173.out).2.2 | (with_reducible refine Kd.C_alloc ?_ _) | (with_reducible refine Kd.C_drewN ?_ _) | (with_reducible refine Kd.C_drew ?_)))
          (case side6 => exact (Kd.R_reads' HO173.out).2.1)
          (case side7 => repeat (first | exact (Kd.R_reads' HO176.out).2.2 | (with_reducible refine Kd.C_alloc ?_ _) | (with_reducible refine Kd.C_drewN ?_ _) | (with_reducible refine Kd.C_drew ?_)))
          (case side8 => exact (Kd.R_reads' HO176.out).2.1)
          (case side9 => repeat (first | exact (Kd.R_reads' HO179.out).2.2 | (with_reducible refine Kd.C_alloc ?_ _) | (with_reducible refine Kd.C_drewN ?_ _) | (with_reducible refine Kd.C_drew ?_)))
          (case side10 => exact (Kd.R_reads' HO179.out).2.1)
          (case side11 => repeat (first | exact (Kd.R_reads' HO182.out).2.2 | (with_reducible refine Kd.C_alloc ?_ _) | (with_reducible refine Kd.C_drewN ?_ _) | (with_reducible refine Kd.C_drew ?_)))
          (case side12 => exact (Kd.R_reads' HO182.out).2.1)
          (case side13 => repeat (first | exact (Kd.R_reads' HO185.out).2.2 | (with_reducible refine Kd.C_alloc ?_ _) | (with_reducible refine Kd.C_drewN ?_ _) | (with_reducible refine Kd.C_drew ?_)))
          (case side14 => exact (Kd.R_reads' HO185.out).2.1)
          (case side15 => repeat (first | exact (Kd.R_reads' HO188.out).2.2 | (with_reducible refine Kd.C_alloc ?_ _) | (with_reducible refine Kd.C_drewN ?_ _) | (with_reducible refine Kd.C_drew ?_)))
          (case side16 => exact (Kd.R_reads' HO188.out).2.1)
          rintro e w204 ⟨rfl, hb⟩
          refine ⟨_, rfl, ?_⟩
          have n0_ := Aside0.mk (Kd.R_below (rA HO167.out) hb)
          have n1_ := Aside0.mk (Kd.R_below (rA HO170.out) hb)
          have n2_ := Aside0.mk (Kd.R_below (rA HO173.out) hb)
          have n3_ := Aside0.mk (Kd.R_below (rA HO176.out) hb)
          have n4_ := Aside0.mk (Kd.R_below (rA HO179.out) hb)
          have n5_ := Aside0.mk (Kd.R_below (rA HO182.out) hb)
          have n6_ := Aside0.mk (Kd.R_below (rA HO185.out) hb)
          have n7_ := Aside0.mk (Kd.R_below (rA HO188.out) hb)
          have n8_ := Aside0.mk (blk_below (kA BK161.out) hb)
          have n9_ := Aside0.mk (blk_below (kA BK162.out) hb)
          have n10_ := Aside0.mk (below_step (bS HB.out) hb)
          clear HO167
          clear HO170
          clear HO173
          clear HO176
          clear HO179
          clear HO182
          clear HO185
          clear HO188
          clear BK161
          clear BK162
          clear HB
          have HO167 := n0_
          have HO170 := n1_
          have HO173 := n2_
          have HO176 := n3_
          have HO179 := n4_
          have HO182 := n5_
          have HO185 := n6_
          have HO188 := n7_
          have BK161 := n8_
          have BK162 := n9_
          have HB := n10_
          clear n0_ n1_ n2_ n3_ n4_ n5_ n6_ n7_ n8_ n9_ n10_
          (try clear hb)
          (try clear hb2)
          (try clear hk)
          (try clear hi)
          refine hK.out _ _ ⟨(blk_cell BK161.out 0).trans rfl, (blk_cell BK161.out 1).trans rfl, (blk_cell BK161.out 2).trans rfl, (blk_cell BK161.out 3).trans rfl, (blk_cell BK162.out 0).trans rfl, (blk_cell BK162.out 1).trans rfl, (blk_cell BK162.out 2).trans rfl, (blk_cell BK162.out 3).trans rfl⟩ (fun hHeld => ?_)
          clear hK K
          refine norm_ (a' := ?_) ?_ ?_
          rotate_left
          · show Act.put _ (some 24) _ = _
            simp only [Act.put, List.setIfInBounds_toArray, List.set_cons_zero, List.set_cons_succ, i64_w, i32_w]
            rfl
          refine pure_ (i := 5) (N := some 6) (v := ?_) (a' := ?_) #[true, true, true, true, true, true] rfl rfl (by kernel_rfl) (fun _ _ _ h => h) (Or.inl ⟨by rfl, ?_⟩) ?_ ?_
          rotate_left
          · intro w'
            go_simp
            with_reducible rfl
          rotate_left
          · simp only [Act.put, List.setIfInBounds_toArray, List.set_cons_zero, List.set_cons_succ, i64_w, i32_w]
            rfl
          refine done_ (by kernel_rfl) ?_
          obtain ⟨hcz205_0, hfz205_0, hcz205_1, hfz205_1, hcz205_2, hfz205_2, hcz205_3, hfz205_3⟩ := bk4 BK161.out
          try go_wp2_with (first | ((with_reducible refine gate_callee (f := 69) rfl ?_); refine gL (some 26) rfl rfl Try.func69 (by kernel_rfl) rfl #[.agg #[.slice A0_0 l0_0.length c0_0, .slice A0_1 l0_1.length c0_1, .slice A0_2 l0_2.length c0_2, .slice A0_3 l0_3.length c0_3]] rfl ?_; (with_reducible refine (laws_toDevice.calls k _ _ l0_0 _ _ l0_1 _ _ l0_2 _ _ l0_3 t190 t193 t196 t199 _ ?side1 ?side2 ?side3 ?side4 ?side5 ?side6 ?side7 ?side8 A22.out).mono ?_); (case side1 => exact cB HR0_0.out HB.out); (case side2 => exact HC0_0.out); (case side3 => exact cB HR0_1.out HB.out); (case side4 => exact HC0_1.out); (case side5 => exact cB HR0_2.out HB.out); (case side6 => exact HC0_2.out); (case side7 => exact cB HR0_3.out HB.out); (case side8 => exact HC0_3.out); rintro e w206 ⟨v191, v194, v197, v200, rfl, ho0, ho1, ho2, ho3, hb⟩; refine ⟨_, rfl, ?_⟩; have n0_ := Aside0.mk (rM (Kd.R_told (Kd.R_told (Kd.R_old (rA HO167.out) hb) (Kd.R_base ho0)) (Kd.R_base ho1))); have n1_ := Aside0.mk (rM (Kd.R_told (Kd.R_told (Kd.R_old (rA HO170.out) hb) (Kd.R_base ho0)) (Kd.R_base ho1))); have n2_ := Aside0.mk (rM (Kd.R_told (Kd.R_told (Kd.R_old (rA HO173.out) hb) (Kd.R_base ho2)) (Kd.R_base ho3))); have n3_ := Aside0.mk (rM (Kd.R_told (Kd.R_told (Kd.R_old (rA HO176.out) hb) (Kd.R_base ho2)) (Kd.R_base ho3))); have n4_ := Aside0.mk (rM (Kd.R_told (Kd.R_told (Kd.R_old (rA HO179.out) hb) (Kd.R_base ho0)) (Kd.R_base ho1))); have n5_ := Aside0.mk (rM (Kd.R_told (Kd.R_told (Kd.R_old (rA HO182.out) hb) (Kd.R_base ho0)) (Kd.R_base ho1))); have n6_ := Aside0.mk (rM (Kd.R_told (Kd.R_told (Kd.R_old (rA HO185.out) hb) (Kd.R_base ho2)) (Kd.R_base ho3))); have n7_ := Aside0.mk (rM (Kd.R_told (Kd.R_told (Kd.R_old (rA HO188.out) hb) (Kd.R_base ho2)) (Kd.R_base ho3))); have n8_ := Aside0.mk (Kd.R_lower (Kd.R_new' (Kd.R_new' (Kd.R_new' (Kd.R_new' ho0 (Kd.R_lt (rA HO167.out))) (Kd.R_lt (rA HO170.out))) (Kd.R_lt (rA HO179.out))) (Kd.R_lt (rA HO182.out))) (below_size (bS HB.out))); have n9_ := Aside0.mk (Kd.R_lower (Kd.R_new' (Kd.R_new' (Kd.R_new' (Kd.R_new' ho1 (Kd.R_lt (rA HO167.out))) (Kd.R_lt (rA HO170.out))) (Kd.R_lt (rA HO179.out))) (Kd.R_lt (rA HO182.out))) (below_size (bS HB.out))); have n10_ := Aside0.mk (Kd.R_lower (Kd.R_new' (Kd.R_new' (Kd.R_new' (Kd.R_new' ho2 (Kd.R_lt (rA HO173.out))) (Kd.R_lt (rA HO176.out))) (Kd.R_lt (rA HO185.out))) (Kd.R_lt (rA HO188.out))) (below_size (bS HB.out))); have n11_ := Aside0.mk (Kd.R_lower (Kd.R_new' (Kd.R_new' (Kd.R_new' (Kd.R_new' ho3 (Kd.R_lt (rA HO173.out))) (Kd.R_lt (rA HO176.out))) (Kd.R_lt (rA HO185.out))) (Kd.R_lt (rA HO188.out))) (below_size (bS HB.out))); have n12_ := Aside0.mk (blk_below (kA BK161.out) hb); have n13_ := Aside0.mk (blk_below (kA BK162.out) hb); have n14_ := Aside0.mk (below_step (bS HB.out) hb); clear HO167 HO170 HO173 HO176 HO179 HO182 HO185 HO188 BK161 BK162 HB; have HO167 := n0_; have HO170 := n1_; have HO173 := n2_; have HO176 := n3_; have HO179 := n4_; have HO182 := n5_; have HO185 := n6_; have HO188 := n7_; have HO192 := n8_; have HO195 := n9_; have HO198 := n10_; have HO201 := n11_; have BK161 := n12_; have BK162 := n13_; have HB := n14_; clear n0_ n1_ n2_ n3_ n4_ n5_ n6_ n7_ n8_ n9_ n10_ n11_ n12_ n13_ n14_; (try clear hb); (try clear hk); (try clear hi); (try clear ho0); (try clear ho1); (try clear ho2); (try clear ho3)) | ((with_reducible refine gate_dst (N := 7) rfl ?_); refine box_event ?hg (N := 7) ?hd (cs := #[.slice none 0 0, .slice none 0 0, .slice none 0 0, .slice none 0 0]) (t := 72) ?hr ?_; (case hd => rfl); (case hg => rfl); (case hr => first | (go_simp; done) | (go_simp; rfl)); intro gb202 hg w207 hbox hb; have n0_ := Aside0.mk (Kd.R_below (rA HO167.out) hb); have n1_ := Aside0.mk (Kd.R_below (rA HO170.out) hb); have n2_ := Aside0.mk (Kd.R_below (rA HO173.out) hb); have n3_ := Aside0.mk (Kd.R_below (rA HO176.out) hb); have n4_ := Aside0.mk (Kd.R_below (rA HO179.out) hb); have n5_ := Aside0.mk (Kd.R_below (rA HO182.out) hb); have n6_ := Aside0.mk (Kd.R_below (rA HO185.out) hb); have n7_ := Aside0.mk (Kd.R_below (rA HO188.out) hb); have n8_ := Aside0.mk (Kd.R_below (rA HO192.out) hb); have n9_ := Aside0.mk (Kd.R_below (rA HO195.out) hb); have n10_ := Aside0.mk (Kd.R_below (rA HO198.out) hb); have n11_ := Aside0.mk (Kd.R_below (rA HO201.out) hb); have n12_ := Aside0.mk (blk_below (kA BK161.out) hb); have n13_ := Aside0.mk (blk_below (kA BK162.out) hb); have n14_ := Aside0.mk (below_step (bS HB.out) hb); have n15_ := Aside0.mk (hbox); have n16_ := Aside0.mk ((by rw [hg]; exact (below_size (bS HB.out)) : w.heap.size ≤ gb202)); have n17_ := n16_; have n18_ := Aside0.mk ((by rw [hg]; exact Nat.ne_of_lt (blk_lt (g := gb161) (o := .cells #[.slice A0_0 l0_0.length c0_0, .slice A0_1 l0_1.length c0_1, .slice A0_2 l0_2.length c0_2, .slice A0_3 l0_3.length c0_3] 81 (0, 0)) (kA BK161.out)) : gb161 ≠ gb202)); have n19_ := Aside0.mk ((by rw [hg]; exact Nat.ne_of_gt (blk_lt (g := gb161) (o := .cells #[.slice A0_0 l0_0.length c0_0, .slice A0_1 l0_1.length c0_1, .slice A0_2 l0_2.length c0_2, .slice A0_3 l0_3.length c0_3] 81 (0, 0)) (kA BK161.out)) : gb202 ≠ gb161)); have n20_ := Aside0.mk ((by rw [hg]; exact Nat.ne_of_lt (blk_lt (g := gb162) (o := .cells #[.slice A1_0 l1_0.length c1_0, .slice A1_1 l1_1.length c1_1, .slice A1_2 l1_2.length c1_2, .slice A1_3 l1_3.length c1_3] 81 (0, 0)) (kA BK162.out)) : gb162 ≠ gb202)); have n21_ := Aside0.mk ((by rw [hg]; exact Nat.ne_of_gt (blk_lt (g := gb162) (o := .cells #[.slice A1_0 l1_0.length c1_0, .slice A1_1 l1_1.length c1_1, .slice A1_2 l1_2.length c1_2, .slice A1_3 l1_3.length c1_3] 81 (0, 0)) (kA BK162.out)) : gb202 ≠ gb162)); clear HO167 HO170 HO173 HO176 HO179 HO182 HO185 HO188 HO192 HO195 HO198 HO201 BK161 BK162 HB; have HO167 := n0_; have HO170 := n1_; have HO173 := n2_; have HO176 := n3_; have HO179 := n4_; have HO182 := n5_; have HO185 := n6_; have HO188 := n7_; have HO192 := n8_; have HO195 := n9_; have HO198 := n10_; have HO201 := n11_; have BK161 := n12_; have BK162 := n13_; have HB := n14_; have BK202 := n15_; have GW202 := n16_; have GE202 := n17_; have NB161_202 := n18_; have NB202_161 := n19_; have NB162_202 := n20_; have NB202_162 := n21_; clear n0_ n1_ n2_ n3_ n4_ n5_ n6_ n7_ n8_ n9_ n10_ n11_ n12_ n13_ n14_ n15_ n16_ n17_ n18_ n19_ n20_ n21_; clear hb hbox hg; obtain ⟨Ao208, co208, eo208⟩ := Kd.R_slice HO192.out; subst eo208; have hnb209 := NB202_161.out; have hnc209 := NB161_202.out; have hnb210 := NB202_162.out; have hnc210 := NB162_202.out; obtain ⟨hcz211_0, hfz211_0, hcz211_1, hfz211_1, hcz211_2, hfz211_2, hcz211_3, hfz211_3⟩ := bk4 BK202.out; obtain ⟨Ao212, co212, eo212⟩ := Kd.R_slice HO195.out; subst eo212; obtain ⟨Ao213, co213, eo213⟩ := Kd.R_slice HO198.out; subst eo213; obtain ⟨Ao214, co214, eo214⟩ := Kd.R_slice HO201.out; subst eo214; obtain ⟨hcz215_0, hfz215_0, hcz215_1, hfz215_1, hcz215_2, hfz215_2, hcz215_3, hfz215_3⟩ := bk4 BK162.out) | ((with_reducible refine gate_callee (f := 69) rfl ?_); refine gL (some 28) rfl rfl Try.func69 (by kernel_rfl) rfl #[.agg #[.slice A1_0 l1_0.length c1_0, .slice A1_1 l1_1.length c1_1, .slice A1_2 l1_2.length c1_2, .slice A1_3 l1_3.length c1_3]] rfl ?_; (with_reducible refine (laws_toDevice.calls k _ _ l1_0 _ _ l1_1 _ _ l1_2 _ _ l1_3 t203 t206 t209 t212 _ ?side1 ?side2 ?side3 ?side4 ?side5 ?side6 ?side7 ?side8 A23.out).mono ?_); (case side1 => exact Kd.C_below HR1_0.out (bS HB.out)); (case side2 => exact HC1_0.out); (case side3 => exact Kd.C_below HR1_1.out (bS HB.out)); (case side4 => exact HC1_1.out); (case side5 => exact Kd.C_below HR1_2.out (bS HB.out)); (case side6 => exact HC1_2.out); (case side7 => exact Kd.C_below HR1_3.out (bS HB.out)); (case side8 => exact HC1_3.out); rintro e w216 ⟨v204, v207, v210, v213, rfl, ho0, ho1, ho2, ho3, hb⟩; refine ⟨_, rfl, ?_⟩; have n0_ := Aside0.mk (rM (Kd.R_told (Kd.R_told (Kd.R_old (rF4 HO167.out BK202.out) hb) (Kd.R_base ho0)) (Kd.R_base ho1))); have n1_ := Aside0.mk (rM (Kd.R_told (Kd.R_told (Kd.R_old (rF4 HO170.out BK202.out) hb) (Kd.R_base ho0)) (Kd.R_base ho1))); have n2_ := Aside0.mk (rM (Kd.R_told (Kd.R_told (Kd.R_old (rF4 HO173.out BK202.out) hb) (Kd.R_base ho2)) (Kd.R_base ho3))); have n3_ := Aside0.mk (rM (Kd.R_told (Kd.R_told (Kd.R_old (rF4 HO176.out BK202.out) hb) (Kd.R_base ho2)) (Kd.R_base ho3))); have n4_ := Aside0.mk (rM (Kd.R_told (Kd.R_told (Kd.R_old (rF4 HO179.out BK202.out) hb) (Kd.R_base ho0)) (Kd.R_base ho1))); have n5_ := Aside0.mk (rM (Kd.R_told (Kd.R_told (Kd.R_old (rF4 HO182.out BK202.out) hb) (Kd.R_base ho0)) (Kd.R_base ho1))); have n6_ := Aside0.mk (rM (Kd.R_told (Kd.R_told (Kd.R_old (rF4 HO185.out BK202.out) hb) (Kd.R_base ho2)) (Kd.R_base ho3))); have n7_ := Aside0.mk (rM (Kd.R_told (Kd.R_told (Kd.R_old (rF4 HO188.out BK202.out) hb) (Kd.R_base ho2)) (Kd.R_base ho3))); have n8_ := Aside0.mk (rM (Kd.R_told (Kd.R_told (Kd.R_old (rF4 HO192.out BK202.out) hb) (Kd.R_base ho0)) (Kd.R_base ho1))); have n9_ := Aside0.mk (rM (Kd.R_told (Kd.R_told (Kd.R_old (rF4 HO195.out BK202.out) hb) (Kd.R_base ho0)) (Kd.R_base ho1))); have n10_ := Aside0.mk (rM (Kd.R_told (Kd.R_told (Kd.R_old (rF4 HO198.out BK202.out) hb) (Kd.R_base ho2)) (Kd.R_base ho3))); have n11_ := Aside0.mk (rM (Kd.R_told (Kd.R_told (Kd.R_old (rF4 HO201.out BK202.out) hb) (Kd.R_base ho2)) (Kd.R_base ho3))); have n12_ := Aside0.mk (Kd.R_lower (Kd.R_new' (Kd.R_new' (Kd.R_new' (Kd.R_new' (Kd.R_new' (Kd.R_new' ho0 (Kd.R_lt (rF4 HO167.out BK202.out))) (Kd.R_lt (rF4 HO170.out BK202.out))) (Kd.R_lt (rF4 HO179.out BK202.out))) (Kd.R_lt (rF4 HO182.out BK202.out))) (Kd.R_lt (rF4 HO192.out BK202.out))) (Kd.R_lt (rF4 HO195.out BK202.out))) (below_size (bS HB.out))); have n13_ := Aside0.mk (Kd.R_lower (Kd.R_new' (Kd.R_new' (Kd.R_new' (Kd.R_new' (Kd.R_new' (Kd.R_new' ho1 (Kd.R_lt (rF4 HO167.out BK202.out))) (Kd.R_lt (rF4 HO170.out BK202.out))) (Kd.R_lt (rF4 HO179.out BK202.out))) (Kd.R_lt (rF4 HO182.out BK202.out))) (Kd.R_lt (rF4 HO192.out BK202.out))) (Kd.R_lt (rF4 HO195.out BK202.out))) (below_size (bS HB.out))); have n14_ := Aside0.mk (Kd.R_lower (Kd.R_new' (Kd.R_new' (Kd.R_new' (Kd.R_new' (Kd.R_new' (Kd.R_new' ho2 (Kd.R_lt (rF4 HO173.out BK202.out))) (Kd.R_lt (rF4 HO176.out BK202.out))) (Kd.R_lt (rF4 HO185.out BK202.out))) (Kd.R_lt (rF4 HO188.out BK202.out))) (Kd.R_lt (rF4 HO198.out BK202.out))) (Kd.R_lt (rF4 HO201.out BK202.out))) (below_size (bS HB.out))); have n15_ := Aside0.mk (Kd.R_lower (Kd.R_new' (Kd.R_new' (Kd.R_new' (Kd.R_new' (Kd.R_new' (Kd.R_new' ho3 (Kd.R_lt (rF4 HO173.out BK202.out))) (Kd.R_lt (rF4 HO176.out BK202.out))) (Kd.R_lt (rF4 HO185.out BK202.out))) (Kd.R_lt (rF4 HO188.out BK202.out))) (Kd.R_lt (rF4 HO198.out BK202.out))) (Kd.R_lt (rF4 HO201.out BK202.out))) (below_size (bS HB.out))); have n16_ := Aside0.mk (blk_below (kF4 BK161.out NB161_202.out) hb); have n17_ := Aside0.mk (blk_below (kF4 BK162.out NB162_202.out) hb); have n18_ := Aside0.mk (blk_below (kP4 BK202.out) hb); have n19_ := Aside0.mk (below_step (bS HB.out) hb); clear HO167 HO170 HO173 HO176 HO179 HO182 HO185 HO188 HO192 HO195 HO198 HO201 BK161 BK162 BK202 HB; have HO167 := n0_; have HO170 := n1_; have HO173 := n2_; have HO176 := n3_; have HO179 := n4_; have HO182 := n5_; have HO185 := n6_; have HO188 := n7_; have HO192 := n8_; have HO195 := n9_; have HO198 := n10_; have HO201 := n11_; have HO205 := n12_; have HO208 := n13_; have HO211 := n14_; have HO214 := n15_; have BK161 := n16_; have BK162 := n17_; have BK202 := n18_; have HB := n19_; clear n0_ n1_ n2_ n3_ n4_ n5_ n6_ n7_ n8_ n9_ n10_ n11_ n12_ n13_ n14_ n15_ n16_ n17_ n18_ n19_; (try clear hb); (try clear hk); (try clear hi); (try clear ho0); (try clear ho1); (try clear ho2); (try clear ho3)) | ((with_reducible refine gate_dst (N := 8) rfl ?_); refine box_event ?hg (N := 8) ?hd (cs := #[.slice none 0 0, .slice none 0 0, .slice none 0 0, .slice none 0 0]) (t := 72) ?hr ?_; (case hd => rfl); (case hg => rfl); (case hr => first | (go_simp; done) | (go_simp; rfl)); intro gb215 hg w217 hbox hb; have n0_ := Aside0.mk (Kd.R_below (rA HO167.out) hb); have n1_ := Aside0.mk (Kd.R_below (rA HO170.out) hb); have n2_ := Aside0.mk (Kd.R_below (rA HO173.out) hb); have n3_ := Aside0.mk (Kd.R_below (rA HO176.out) hb); have n4_ := Aside0.mk (Kd.R_below (rA HO179.out) hb); have n5_ := Aside0.mk (Kd.R_below (rA HO182.out) hb); have n6_ := Aside0.mk (Kd.R_below (rA HO185.out) hb); have n7_ := Aside0.mk (Kd.R_below (rA HO188.out) hb); have n8_ := Aside0.mk (Kd.R_below (rA HO192.out) hb); have n9_ := Aside0.mk (Kd.R_below (rA HO195.out) hb); have n10_ := Aside0.mk (Kd.R_below (rA HO198.out) hb); have n11_ := Aside0.mk (Kd.R_below (rA HO201.out) hb); have n12_ := Aside0.mk (Kd.R_below (rA HO205.out) hb); have n13_ := Aside0.mk (Kd.R_below (rA HO208.out) hb); have n14_ := Aside0.mk (Kd.R_below (rA HO211.out) hb); have n15_ := Aside0.mk (Kd.R_below (rA HO214.out) hb); have n16_ := Aside0.mk (blk_below (kA BK161.out) hb); have n17_ := Aside0.mk (blk_below (kA BK162.out) hb); have n18_ := Aside0.mk (blk_below (kA BK202.out) hb); have n19_ := Aside0.mk (below_step (bS HB.out) hb); have n20_ := Aside0.mk (hbox); have n21_ := Aside0.mk ((by rw [hg]; exact (below_size (bS HB.out)) : w.heap.size ≤ gb215)); have n22_ := n21_; have n23_ := Aside0.mk ((by rw [hg]; exact Nat.ne_of_lt (blk_lt (g := gb161) (o := .cells #[.slice A0_0 l0_0.length c0_0, .slice A0_1 l0_1.length c0_1, .slice A0_2 l0_2.length c0_2, .slice A0_3 l0_3.length c0_3] 81 (0, 0)) (kA BK161.out)) : gb161 ≠ gb215)); have n24_ := Aside0.mk ((by rw [hg]; exact Nat.ne_of_gt (blk_lt (g := gb161) (o := .cells #[.slice A0_0 l0_0.length c0_0, .slice A0_1 l0_1.length c0_1, .slice A0_2 l0_2.length c0_2, .slice A0_3 l0_3.length c0_3] 81 (0, 0)) (kA BK161.out)) : gb215 ≠ gb161)); have n25_ := Aside0.mk ((by rw [hg]; exact Nat.ne_of_lt (blk_lt (g := gb162) (o := .cells #[.slice A1_0 l1_0.length c1_0, .slice A1_1 l1_1.length c1_1, .slice A1_2 l1_2.length c1_2, .slice A1_3 l1_3.length c1_3] 81 (0, 0)) (kA BK162.out)) : gb162 ≠ gb215)); have n26_ := Aside0.mk ((by rw [hg]; exact Nat.ne_of_gt (blk_lt (g := gb162) (o := .cells #[.slice A1_0 l1_0.length c1_0, .slice A1_1 l1_1.length c1_1, .slice A1_2 l1_2.length c1_2, .slice A1_3 l1_3.length c1_3] 81 (0, 0)) (kA BK162.out)) : gb215 ≠ gb162)); have n27_ := Aside0.mk ((by rw [hg]; exact Nat.ne_of_lt (blk_lt (g := gb202) (o := .cells #[.slice Ao208 t190.length co208, .slice Ao212 t193.length co212, .slice Ao213 t196.length co213, .slice Ao214 t199.length co214] 72 (0, 0)) (kA BK202.out)) : gb202 ≠ gb215)); have n28_ := Aside0.mk ((by rw [hg]; exact Nat.ne_of_gt (blk_lt (g := gb202) (o := .cells #[.slice Ao208 t190.length co208, .slice Ao212 t193.length co212, .slice Ao213 t196.length co213, .slice Ao214 t199.length co214] 72 (0, 0)) (kA BK202.out)) : gb215 ≠ gb202)); clear HO167 HO170 HO173 HO176 HO179 HO182 HO185 HO188 HO192 HO195 HO198 HO201 HO205 HO208 HO211 HO214 BK161 BK162 BK202 HB; have HO167 := n0_; have HO170 := n1_; have HO173 := n2_; have HO176 := n3_; have HO179 := n4_; have HO182 := n5_; have HO185 := n6_; have HO188 := n7_; have HO192 := n8_; have HO195 := n9_; have HO198 := n10_; have HO201 := n11_; have HO205 := n12_; have HO208 := n13_; have HO211 := n14_; have HO214 := n15_; have BK161 := n16_; have BK162 := n17_; have BK202 := n18_; have HB := n19_; have BK215 := n20_; have GW215 := n21_; have GE215 := n22_; have NB161_215 := n23_; have NB215_161 := n24_; have NB162_215 := n25_; have NB215_162 := n26_; have NB202_215 := n27_; have NB215_202 := n28_; clear n0_ n1_ n2_ n3_ n4_ n5_ n6_ n7_ n8_ n9_ n10_ n11_ n12_ n13_ n14_ n15_ n16_ n17_ n18_ n19_ n20_ n21_ n22_ n23_ n24_ n25_ n26_ n27_ n28_; clear hb hbox hg; obtain ⟨Ao218, co218, eo218⟩ := Kd.R_slice HO205.out; subst eo218; have hnb219 := NB215_161.out; have hnc219 := NB161_215.out; have hnb220 := NB215_162.out; have hnc220 := NB162_215.out; have hnb221 := NB215_202.out; have hnc221 := NB202_215.out; obtain ⟨hcz222_0, hfz222_0, hcz222_1, hfz222_1, hcz222_2, hfz222_2, hcz222_3, hfz222_3⟩ := bk4 BK215.out; obtain ⟨Ao223, co223, eo223⟩ := Kd.R_slice HO208.out; subst eo223; obtain ⟨Ao224, co224, eo224⟩ := Kd.R_slice HO211.out; subst eo224; obtain ⟨Ao225, co225, eo225⟩ := Kd.R_slice HO214.out; subst eo225; obtain ⟨hcz226_0, hfz226_0, hcz226_1, hfz226_1, hcz226_2, hfz226_2, hcz226_3, hfz226_3⟩ := bk4 BK202.out) | ((with_reducible refine gate_callee (f := 73) rfl ?_); refine gL (some 31) rfl rfl Try.func73 (by kernel_rfl) rfl #[.agg #[.slice Ao208 t190.length co208, .slice Ao212 t193.length co212, .slice Ao213 t196.length co213, .slice Ao214 t199.length co214], .agg #[.slice Ao218 t203.length co218, .slice Ao223 t206.length co223, .slice Ao224 t209.length co224, .slice Ao225 t212.length co225]] rfl ?_; (with_reducible refine (impl_SameDevice.calls k _ _ t190 _ _ t193 _ _ t196 _ _ t199 _ _ t203 _ _ t206 _ _ t209 _ _ t212 t216 _ ?side1 ?side2 ?side3 ?side4 ?side5 ?side6 ?side7 ?side8 ?side9 ?side10 ?side11 ?side12 ?side13 ?side14 ?side15 ?side16 A24.out).mono ?_); (case side1 => exact (Kd.R_reads' (rF4 HO192.out BK215.out)).2.2); (case side2 => exact (Kd.R_reads' HO192.out).2.1); (case side3 => exact (Kd.R_reads' (rF4 HO195.out BK215.out)).2.2); (case side4 => exact (Kd.R_reads' HO195.out).2.1); (case side5 => exact (Kd.R_reads' (rF4 HO198.out BK215.out)).2.2); (case side6 => exact (Kd.R_reads' HO198.out).2.1); (case side7 => exact (Kd.R_reads' (rF4 HO201.out BK215.out)).2.2); (case side8 => exact (Kd.R_reads' HO201.out).2.1); (case side9 => exact (Kd.R_reads' (rF4 HO205.out BK215.out)).2.2); (case side10 => exact (Kd.R_reads' HO205.out).2.1); (case side11 => exact (Kd.R_reads' (rF4 HO208.out BK215.out)).2.2); (case side12 => exact (Kd.R_reads' HO208.out).2.1); (case side13 => exact (Kd.R_reads' (rF4 HO211.out BK215.out)).2.2); (case side14 => exact (Kd.R_reads' HO211.out).2.1); (case side15 => exact (Kd.R_reads' (rF4 HO214.out BK215.out)).2.2); (case side16 => exact (Kd.R_reads' HO214.out).2.1); rintro e w227 ⟨rfl, hb⟩; refine ⟨_, rfl, ?_⟩; have n0_ := Aside0.mk (Kd.R_below (rF4 HO167.out BK215.out) hb); have n1_ := Aside0.mk (Kd.R_below (rF4 HO170.out BK215.out) hb); have n2_ := Aside0.mk (Kd.R_below (rF4 HO173.out BK215.out) hb); have n3_ := Aside0.mk (Kd.R_below (rF4 HO176.out BK215.out) hb); have n4_ := Aside0.mk (Kd.R_below (rF4 HO179.out BK215.out) hb); have n5_ := Aside0.mk (Kd.R_below (rF4 HO182.out BK215.out) hb); have n6_ := Aside0.mk (Kd.R_below (rF4 HO185.out BK215.out) hb); have n7_ := Aside0.mk (Kd.R_below (rF4 HO188.out BK215.out) hb); have n8_ := Aside0.mk (Kd.R_below (rF4 HO192.out BK215.out) hb); have n9_ := Aside0.mk (Kd.R_below (rF4 HO195.out BK215.out) hb); have n10_ := Aside0.mk (Kd.R_below (rF4 HO198.out BK215.out) hb); have n11_ := Aside0.mk (Kd.R_below (rF4 HO201.out BK215.out) hb); have n12_ := Aside0.mk (Kd.R_below (rF4 HO205.out BK215.out) hb); have n13_ := Aside0.mk (Kd.R_below (rF4 HO208.out BK215.out) hb); have n14_ := Aside0.mk (Kd.R_below (rF4 HO211.out BK215.out) hb); have n15_ := Aside0.mk (Kd.R_below (rF4 HO214.out BK215.out) hb); have n16_ := Aside0.mk (blk_below (kF4 BK161.out NB161_215.out) hb); have n17_ := Aside0.mk (blk_below (kF4 BK162.out NB162_215.out) hb); have n18_ := Aside0.mk (blk_below (kF4 BK202.out NB202_215.out) hb); have n19_ := Aside0.mk (blk_below (kP4 BK215.out) hb); have n20_ := Aside0.mk (below_step (bS HB.out) hb); clear HO167 HO170 HO173 HO176 HO179 HO182 HO185 HO188 HO192 HO195 HO198 HO201 HO205 HO208 HO211 HO214 BK161 BK162 BK202 BK215 HB; have HO167 := n0_; have HO170 := n1_; have HO173 := n2_; have HO176 := n3_; have HO179 := n4_; have HO182 := n5_; have HO185 := n6_; have HO188 := n7_; have HO192 := n8_; have HO195 := n9_; have HO198 := n10_; have HO201 := n11_; have HO205 := n12_; have HO208 := n13_; have HO211 := n14_; have HO214 := n15_; have BK161 := n16_; have BK162 := n17_; have BK202 := n18_; have BK215 := n19_; have HB := n20_; clear n0_ n1_ n2_ n3_ n4_ n5_ n6_ n7_ n8_ n9_ n10_ n11_ n12_ n13_ n14_ n15_ n16_ n17_ n18_ n19_ n20_; (try clear hb); (try clear hk); (try clear hi)))
          have n0_ := Aside0.mk (Kd.R_drew HO167.out)
          have n1_ := Aside0.mk (Kd.R_drew HO170.out)
          have n2_ := Aside0.mk (Kd.R_drew HO173.out)
          have n3_ := Aside0.mk (Kd.R_drew HO176.out)
          have n4_ := Aside0.mk (Kd.R_drew HO179.out)
          have n5_ := Aside0.mk (Kd.R_drew HO182.out)
          have n6_ := Aside0.mk (Kd.R_drew HO185.out)
          have n7_ := Aside0.mk (Kd.R_drew HO188.out)
          have n8_ := Aside0.mk (Kd.R_drew HO192.out)
          have n9_ := Aside0.mk (Kd.R_drew HO195.out)
          have n10_ := Aside0.mk (Kd.R_drew HO198.out)
          have n11_ := Aside0.mk (Kd.R_drew HO201.out)
          have n12_ := Aside0.mk (Kd.R_drew HO205.out)
          have n13_ := Aside0.mk (Kd.R_drew HO208.out)
          have n14_ := Aside0.mk (Kd.R_drew HO211.out)
          have n15_ := Aside0.mk (Kd.R_drew HO214.out)
          have n16_ := Aside0.mk (blk_drew BK161.out)
          have n17_ := Aside0.mk (blk_drew BK162.out)
          have n18_ := Aside0.mk (blk_drew BK202.out)
          have n19_ := Aside0.mk (blk_drew BK215.out)
          have n20_ := Aside0.mk (below_drew1 HB.out)
          clear HO167
          clear HO170
          clear HO173
          clear HO176
          clear HO179
          clear HO182
          clear HO185
          clear HO188
          clear HO192
          clear HO195
          clear HO198
          clear HO201
          clear HO205
          clear HO208
          clear HO211
          clear HO214
          clear BK161
          clear BK162
          clear BK202
          clear BK215
          clear HB
          have HO167 := n0_
          have HO170 := n1_
          have HO173 := n2_
          have HO176 := n3_
          have HO179 := n4_
          have HO182 := n5_
          have HO185 := n6_
          have HO188 := n7_
          have HO192 := n8_
          have HO195 := n9_
          have HO198 := n10_
          have HO201 := n11_
          have HO205 := n12_
          have HO208 := n13_
          have HO211 := n14_
          have HO214 := n15_
          have BK161 := n16_
          have BK162 := n17_
          have BK202 := n18_
          have BK215 := n19_
          have HB := n20_
          clear n0_ n1_ n2_ n3_ n4_ n5_ n6_ n7_ n8_ n9_ n10_ n11_ n12_ n13_ n14_ n15_ n16_ n17_ n18_ n19_ n20_
          refine start_ (n := 5) (S := fun w' => w'.cell? ⟨gb202, 0, none⟩ = some (.slice Ao208 t190.length co208) ∧ w'.cell? ⟨gb202, 1, none⟩ = some (.slice Ao212 t193.length co212) ∧ w'.cell? ⟨gb202, 2, none⟩ = some (.slice Ao213 t196.length co213) ∧ w'.cell? ⟨gb202, 3, none⟩ = some (.slice Ao214 t199.length co214) ∧ w'.cell? ⟨gb161, 0, none⟩ = some (.slice A0_0 l0_0.length c0_0) ∧ w'.cell? ⟨gb161, 1, none⟩ = some (.slice A0_1 l0_1.length c0_1) ∧ w'.cell? ⟨gb161, 2, none⟩ = some (.slice A0_2 l0_2.length c0_2) ∧ w'.cell? ⟨gb161, 3, none⟩ = some (.slice A0_3 l0_3.length c0_3)) (ds := []) #[false, false, false, false, false] (by kernel_rfl) rfl rfl ⟨(blk_cell BK202.out 0).trans rfl, (blk_cell BK202.out 1).trans rfl, (blk_cell BK202.out 2).trans rfl, (blk_cell BK202.out 3).trans rfl, (blk_cell BK161.out 0).trans rfl, (blk_cell BK161.out 1).trans rfl, (blk_cell BK161.out 2).trans rfl, (blk_cell BK161.out 3).trans rfl⟩ (fun hHeld => ?_)
          generalize w227.drew = w228 at HO167 HO170 HO173 HO176 HO179 HO182 HO185 HO188 HO192 HO195 HO198 HO201 HO205 HO208 HO211 HO214 BK161 BK162 BK202 BK215 HB hHeld ⊢
          refine take_ (i := 0) (N := some 35) (v := ?_) (a' := ?_) #[true, false, false, false, false] rfl rfl (by kernel_rfl) (fun _ _ _ h => h) (Or.inl ⟨by rfl, ?_⟩) hHeld ?_ ?_
          rotate_left
          · rintro w' ⟨s0, s1, s2, s3, s4, s5, s6, s7⟩
            go_simp
            with_reducible rfl
          rotate_left
          · simp only [Act.put, List.setIfInBounds_toArray, List.set_cons_zero, List.set_cons_succ, i64_w, i32_w]
            rfl
          refine take_ (i := 1) (N := some 36) (v := ?_) (a' := ?_) #[true, true, false, false, false] rfl rfl (by kernel_rfl) (fun _ _ _ h => h) (Or.inl ⟨by rfl, ?_⟩) hHeld ?_ ?_
          rotate_left
          · rintro w' ⟨s0, s1, s2, s3, s4, s5, s6, s7⟩
            go_simp
            with_reducible rfl
          rotate_left
          · simp only [Act.put, List.setIfInBounds_toArray, List.set_cons_zero, List.set_cons_succ, i64_w, i32_w]
            rfl
          refine one_ (i := 2) (N := some 37) #[true, true, true, false, false] rfl rfl (by kernel_rfl) (by decide) (fun K hK => ?_)
          refine goes_ Try.func69 (by kernel_rfl) rfl #[.agg #[.slice A0_0 l0_0.length c0_0, .slice A0_1 l0_1.length c0_1, .slice A0_2 l0_2.length c0_2, .slice A0_3 l0_3.length c0_3]] (by rfl) rfl rfl (by (try simp only [List.map_toArray, List.map_cons, List.map_nil]); first | done | rfl | (simp only [List.length_drop, List.length_take]; rfl)) ?_
          with_reducible refine (laws_toDevice.calls k _ _ l0_0 _ _ l0_1 _ _ l0_2 _ _ l0_3 t217 t220 t223 t226 _ ?side1 ?side2 ?side3 ?side4 ?side5 ?side6 ?side7 ?side8 A68.out).mono ?_
          (case side1 => exact cB HR0_0.out HB.out)
          (case side2 => exact HC0_0.out)
          (case side3 => exact cB HR0_1.out HB.out)
          (case side4 => exact HC0_1.out)
          (case side5 => exact cB HR0_2.out HB.out)
          (case side6 => exact HC0_2.out)
          (case side7 => exact cB HR0_3.out HB.out)
          (case side8 => exact HC0_3.out)
          rintro e w229 ⟨v218, v221, v224, v227, rfl, ho0, ho1, ho2, ho3, hb⟩
          refine ⟨_, rfl, ?_⟩
          have n0_ := Aside0.mk (rM (Kd.R_told (Kd.R_told (Kd.R_old (rA HO167.out) hb) (Kd.R_base ho0)) (Kd.R_base ho1)))
          have n1_ := Aside0.mk (rM (Kd.R_told (Kd.R_told (Kd.R_old (rA HO170.out) hb) (Kd.R_base ho0)) (Kd.R_base ho1)))
          have n2_ := Aside0.mk (rM (Kd.R_told (Kd.R_told (Kd.R_old (rA HO173.out) hb) (Kd.R_base ho2)) (Kd.R_base ho3)))
          have n3_ := Aside0.mk (rM (Kd.R_told (Kd.R_told (Kd.R_old (rA HO176.out) hb) (Kd.R_base ho2)) (Kd.R_base ho3)))
          have n4_ := Aside0.mk (rM (Kd.R_told (Kd.R_told (Kd.R_old (rA HO179.out) hb) (Kd.R_base ho0)) (Kd.R_base ho1)))
          have n5_ := Aside0.mk (rM (Kd.R_told (Kd.R_told (Kd.R_old (rA HO182.out) hb) (Kd.R_base ho0)) (Kd.R_base ho1)))
          have n6_ := Aside0.mk (rM (Kd.R_told (Kd.R_told (Kd.R_old (rA HO185.out) hb) (Kd.R_base ho2)) (Kd.R_base ho3)))
          have n7_ := Aside0.mk (rM (Kd.R_told (Kd.R_told (Kd.R_old (rA HO188.out) hb) (Kd.R_base ho2)) (Kd.R_base ho3)))
          have n8_ := Aside0.mk (rM (Kd.R_told (Kd.R_told (Kd.R_old (rA HO192.out) hb) (Kd.R_base ho0)) (Kd.R_base ho1)))
          have n9_ := Aside0.mk (rM (Kd.R_told (Kd.R_told (Kd.R_old (rA HO195.out) hb) (Kd.R_base ho0)) (Kd.R_base ho1)))
          have n10_ := Aside0.mk (rM (Kd.R_told (Kd.R_told (Kd.R_old (rA HO198.out) hb) (Kd.R_base ho2)) (Kd.R_base ho3)))
          have n11_ := Aside0.mk (rM (Kd.R_told (Kd.R_told (Kd.R_old (rA HO201.out) hb) (Kd.R_base ho2)) (Kd.R_base ho3)))
          have n12_ := Aside0.mk (rM (Kd.R_told (Kd.R_told (Kd.R_old (rA HO205.out) hb) (Kd.R_base ho0)) (Kd.R_base ho1)))
          have n13_ := Aside0.mk (rM (Kd.R_told (Kd.R_told (Kd.R_old (rA HO208.out) hb) (Kd.R_base ho0)) (Kd.R_base ho1)))
          have n14_ := Aside0.mk (rM (Kd.R_told (Kd.R_told (Kd.R_old (rA HO211.out) hb) (Kd.R_base ho2)) (Kd.R_base ho3)))
          have n15_ := Aside0.mk (rM (Kd.R_told (Kd.R_told (Kd.R_old (rA HO214.out) hb) (Kd.R_base ho2)) (Kd.R_base ho3)))
          have n16_ := Aside0.mk (Kd.R_lower (Kd.R_new' (Kd.R_new' (Kd.R_new' (Kd.R_new' (Kd.R_new' (Kd.R_new' (Kd.R_new' (Kd.R_new' ho0 (Kd.R_lt (rA HO167.out))) (Kd.R_lt (rA HO170.out))) (Kd.R_lt (rA HO179.out))) (Kd.R_lt (rA HO182.out))) (Kd.R_lt (rA HO192.out))) (Kd.R_lt (rA HO195.out))) (Kd.R_lt (rA HO205.out))) (Kd.R_lt (rA HO208.out))) (below_size (bS HB.out)))
          have n17_ := Aside0.mk (Kd.R_lower (Kd.R_new' (Kd.R_new' (Kd.R_new' (Kd.R_new' (Kd.R_new' (Kd.R_new' (Kd.R_new' (Kd.R_new' ho1 (Kd.R_lt (rA HO167.out))) (Kd.R_lt (rA HO170.out))) (Kd.R_lt (rA HO179.out))) (Kd.R_lt (rA HO182.out))) (Kd.R_lt (rA HO192.out))) (Kd.R_lt (rA HO195.out))) (Kd.R_lt (rA HO205.out))) (Kd.R_lt (rA HO208.out))) (below_size (bS HB.out)))
          have n18_ := Aside0.mk (Kd.R_lower (Kd.R_new' (Kd.R_new' (Kd.R_new' (Kd.R_new' (Kd.R_new' (Kd.R_new' (Kd.R_new' (Kd.R_new' ho2 (Kd.R_lt (rA HO173.out))) (Kd.R_lt (rA HO176.out))) (Kd.R_lt (rA HO185.out))) (Kd.R_lt (rA HO188.out))) (Kd.R_lt (rA HO198.out))) (Kd.R_lt (rA HO201.out))) (Kd.R_lt (rA HO211.out))) (Kd.R_lt (rA HO214.out))) (below_size (bS HB.out)))
          have n19_ := Aside0.mk (Kd.R_lower (Kd.R_new' (Kd.R_new' (Kd.R_new' (Kd.R_new' (Kd.R_new' (Kd.R_new' (Kd.R_new' (Kd.R_new' ho3 (Kd.R_lt (rA HO173.out))) (Kd.R_lt (rA HO176.out))) (Kd.R_lt (rA HO185.out))) (Kd.R_lt (rA HO188.out))) (Kd.R_lt (rA HO198.out))) (Kd.R_lt (rA HO201.out))) (Kd.R_lt (rA HO211.out))) (Kd.R_lt (rA HO214.out))) (below_size (bS HB.out)))
          have n20_ := Aside0.mk (blk_below (kA BK161.out) hb)
          have n21_ := Aside0.mk (blk_below (kA BK162.out) hb)
          have n22_ := Aside0.mk (blk_below (kA BK202.out) hb)
          have n23_ := Aside0.mk (blk_below (kA BK215.out) hb)
          have n24_ := Aside0.mk (below_step (bS HB.out) hb)
          clear HO167
          clear HO170
          clear HO173
          clear HO176
          clear HO179
          clear HO182
          clear HO185
          clear HO188
          clear HO192
          clear HO195
          clear HO198
          clear HO201
          clear HO205
          clear HO208
          clear HO211
          clear HO214
          clear BK161
          clear BK162
          clear BK202
          clear BK215
          clear HB
          have HO167 := n0_
          have HO170 := n1_
          have HO173 := n2_
          have HO176 := n3_
          have HO179 := n4_
          have HO182 := n5_
          have HO185 := n6_
          have HO188 := n7_
          have HO192 := n8_
          have HO195 := n9_
          have HO198 := n10_
          have HO201 := n11_
          have HO205 := n12_
          have HO208 := n13_
          have HO211 := n14_
          have HO214 := n15_
          have HO219 := n16_
          have HO222 := n17_
          have HO225 := n18_
          have HO228 := n19_
          have BK161 := n20_
          have BK162 := n21_
          have BK202 := n22_
          have BK215 := n23_
          have HB := n24_
          clear n0_ n1_ n2_ n3_ n4_ n5_ n6_ n7_ n8_ n9_ n10_ n11_ n12_ n13_ n14_ n15_ n16_ n17_ n18_ n19_ n20_ n21_ n22_ n23_ n24_
          (try clear hb)
          (try clear hb2)
          (try clear hk)
          (try clear hi)
          (try clear ho0)
          (try clear ho1)
          (try clear ho2)
          (try clear ho3)
          obtain ⟨Ao230, co230, eo230⟩ := Kd.R_slice HO219.out
          (first | subst eo230 | (injection eo230 with f1_ f2_ f3_; have f4_ := f1_.symm; have f5_ := f3_.symm; clear f1_ f2_ f3_; subst f4_; subst f5_))
          obtain ⟨Ao231, co231, eo231⟩ := Kd.R_slice HO222.out
          (first | subst eo231 | (injection eo231 with f1_ f2_ f3_; have f4_ := f1_.symm; have f5_ := f3_.symm; clear f1_ f2_ f3_; subst f4_; subst f5_))
          obtain ⟨Ao232, co232, eo232⟩ := Kd.R_slice HO225.out
          (first | subst eo232 | (injection eo232 with f1_ f2_ f3_; have f4_ := f1_.symm; have f5_ := f3_.symm; clear f1_ f2_ f3_; subst f4_; subst f5_))
          obtain ⟨Ao233, co233, eo233⟩ := Kd.R_slice HO228.out
          (first | subst eo233 | (injection eo233 with f1_ f2_ f3_; have f4_ := f1_.symm; have f5_ := f3_.symm; clear f1_ f2_ f3_; subst f4_; subst f5_))
          refine hK.out _ _ ⟨(blk_cell BK202.out 0).trans rfl, (blk_cell BK202.out 1).trans rfl, (blk_cell BK202.out 2).trans rfl, (blk_cell BK202.out 3).trans rfl, (blk_cell BK161.out 0).trans rfl, (blk_cell BK161.out 1).trans rfl, (blk_cell BK161.out 2).trans rfl, (blk_cell BK161.out 3).trans rfl⟩ (fun hHeld => ?_)
          clear hK K
          refine norm_ (a' := ?_) ?_ ?_
          rotate_left
          · show Act.put _ (some 37) _ = _
            simp only [Act.put, List.setIfInBounds_toArray, List.set_cons_zero, List.set_cons_succ, i64_w, i32_w]
            rfl
          refine one_ (i := 3) (N := some 38) #[true, true, true, true, false] rfl rfl (by kernel_rfl) (by decide) (fun K hK => ?_)
          refine goes_ Try.func61 (by kernel_rfl) rfl #[.agg #[.slice Ao208 t190.length co208, .slice Ao212 t193.length co212, .slice Ao213 t196.length co213, .slice Ao214 t199.length co214], .agg #[.slice Ao230 t217.length co230, .slice Ao231 t220.length co231, .slice Ao232 t223.length co232, .slice Ao233 t226.length co233]] (by rfl) rfl rfl (by (try simp only [List.map_toArray, List.map_cons, List.map_nil]); first | done | rfl | (simp only [List.length_drop, List.length_take]; rfl)) ?_
          with_reducible refine (laws_eqDevice.calls k _ _ t190 _ _ t193 _ _ t196 _ _ t199 _ _ t217 _ _ t220 _ _ t223 _ _ t226 false _ ?side1 ?side2 ?side3 ?side4 ?side5 ?side6 ?side7 ?side8 ?side9 ?side10 ?side11 ?side12 ?side13 ?side14 ?side15 ?side16 A69.out).mono ?_
          (case side1 => repeat (first | exact (Kd.R_reads' HO192.out).2.2 | (with_reducible refine Kd.C_alloc ?_ _) | (with_reducible refine Kd.C_drewN ?_ _) | (with_reducible refine Kd.C_drew ?_)))
          (case side2 => exact (Kd.R_reads' HO192.out).2.1)
          (case side3 => repeat (first | exact (Kd.R_reads' HO195.out).2.2 | (with_reducible refine Kd.C_alloc ?_ _) | (with_reducible refine Kd.C_drewN ?_ _) | (with_reducible refine Kd.C_drew ?_)))
          (case side4 => exact (Kd.R_reads' HO195.out).2.1)
          (case side5 => repeat (first | exact (Kd.R_reads' HO198.out).2.2 | (with_reducible refine Kd.C_alloc ?_ _) | (with_reducible refine Kd.C_drewN ?_ _) | (with_reducible refine Kd.C_drew ?_)))
          (case side6 => exact (Kd.R_reads' HO198.out).2.1)
          (case side7 => repeat (first | exact (Kd.R_reads' HO201.out).2.2 | (with_reducible refine Kd.C_alloc ?_ _) | (with_reducible refine Kd.C_drewN ?_ _) | (with_reducible refine Kd.C_drew ?_)))
          (case side8 => exact (Kd.R_reads' HO201.out).2.1)
          (case side9 => repeat (first | exact (Kd.R_reads' HO219.out).2.2 | (with_reducible refine Kd.C_alloc ?_ _) | (with_reducible refine Kd.C_drewN ?_ _) | (with_reducible refine Kd.C_drew ?_)))
          (case side10 => exact (Kd.R_reads' HO219.out).2.1)
          (case side11 => repeat (first | exact (Kd.R_reads' HO222.out).2.2 | (with_reducible refine Kd.C_alloc ?_ _) | (with_reducible refine Kd.C_drewN ?_ _) | (with_reducible refine Kd.C_drew ?_)))
          (case side12 => exact (Kd.R_reads' HO222.out).2.1)
          (case side13 => repeat (first | exact (Kd.R_reads' HO225.out).2.2 | (with_reducible refine Kd.C_alloc ?_ _) | (with_reducible refine Kd.C_drewN ?_ _) | (with_reducible refine Kd.C_drew ?_)))
          (case side14 => exact (Kd.R_reads' HO225.out).2.1)
          (case side15 => repeat (first | exact (Kd.R_reads' HO228.out).2.2 | (with_reducible refine Kd.C_alloc ?_ _) | (with_reducible refine Kd.C_drewN ?_ _) | (with_reducible refine Kd.C_drew ?_)))
          (case side16 => exact (Kd.R_reads' HO228.out).2.1)
          rintro e w234 ⟨rfl, hb⟩
          refine ⟨_, rfl, ?_⟩
          have n0_ := Aside0.mk (Kd.R_below (rA HO167.out) hb)
          have n1_ := Aside0.mk (Kd.R_below (rA HO170.out) hb)
          have n2_ := Aside0.mk (Kd.R_below (rA HO173.out) hb)
          have n3_ := Aside0.mk (Kd.R_below (rA HO176.out) hb)
          have n4_ := Aside0.mk (Kd.R_below (rA HO179.out) hb)
          have n5_ := Aside0.mk (Kd.R_below (rA HO182.out) hb)
          have n6_ := Aside0.mk (Kd.R_below (rA HO185.out) hb)
          have n7_ := Aside0.mk (Kd.R_below (rA HO188.out) hb)
          have n8_ := Aside0.mk (Kd.R_below (rA HO192.out) hb)
          have n9_ := Aside0.mk (Kd.R_below (rA HO195.out) hb)
          have n10_ := Aside0.mk (Kd.R_below (rA HO198.out) hb)
          have n11_ := Aside0.mk (Kd.R_below (rA HO201.out) hb)
          have n12_ := Aside0.mk (Kd.R_below (rA HO205.out) hb)
          have n13_ := Aside0.mk (Kd.R_below (rA HO208.out) hb)
          have n14_ := Aside0.mk (Kd.R_below (rA HO211.out) hb)
          have n15_ := Aside0.mk (Kd.R_below (rA HO214.out) hb)
          have n16_ := Aside0.mk (Kd.R_below (rA HO219.out) hb)
          have n17_ := Aside0.mk (Kd.R_below (rA HO222.out) hb)
          have n18_ := Aside0.mk (Kd.R_below (rA HO225.out) hb)
          have n19_ := Aside0.mk (Kd.R_below (rA HO228.out) hb)
          have n20_ := Aside0.mk (blk_below (kA BK161.out) hb)
          have n21_ := Aside0.mk (blk_below (kA BK162.out) hb)
          have n22_ := Aside0.mk (blk_below (kA BK202.out) hb)
          have n23_ := Aside0.mk (blk_below (kA BK215.out) hb)
          have n24_ := Aside0.mk (below_step (bS HB.out) hb)
          clear HO167
          clear HO170
          clear HO173
          clear HO176
          clear HO179
          clear HO182
          clear HO185
          clear HO188
          clear HO192
          clear HO195
          clear HO198
          clear HO201
          clear HO205
          clear HO208
          clear HO211
          clear HO214
          clear HO219
          clear HO222
          clear HO225
          clear HO228
          clear BK161
          clear BK162
          clear BK202
          clear BK215
          clear HB
          have HO167 := n0_
          have HO170 := n1_
          have HO173 := n2_
          have HO176 := n3_
          have HO179 := n4_
          have HO182 := n5_
          have HO185 := n6_
          have HO188 := n7_
          have HO192 := n8_
          have HO195 := n9_
          have HO198 := n10_
          have HO201 := n11_
          have HO205 := n12_
          have HO208 := n13_
          have HO211 := n14_
          have HO214 := n15_
          have HO219 := n16_
          have HO222 := n17_
          have HO225 := n18_
          have HO228 := n19_
          have BK161 := n20_
          have BK162 := n21_
          have BK202 := n22_
          have BK215 := n23_
          have HB := n24_
          clear n0_ n1_ n2_ n3_ n4_ n5_ n6_ n7_ n8_ n9_ n10_ n11_ n12_ n13_ n14_ n15_ n16_ n17_ n18_ n19_ n20_ n21_ n22_ n23_ n24_
          (try clear hb)
          (try clear hb2)
          (try clear hk)
          (try clear hi)
          refine hK.out _ _ ⟨(blk_cell BK202.out 0).trans rfl, (blk_cell BK202.out 1).trans rfl, (blk_cell BK202.out 2).trans rfl, (blk_cell BK202.out 3).trans rfl, (blk_cell BK161.out 0).trans rfl, (blk_cell BK161.out 1).trans rfl, (blk_cell BK161.out 2).trans rfl, (blk_cell BK161.out 3).trans rfl⟩ (fun hHeld => ?_)
          clear hK K
          refine norm_ (a' := ?_) ?_ ?_
          rotate_left
          · show Act.put _ (some 38) _ = _
            simp only [Act.put, List.setIfInBounds_toArray, List.set_cons_zero, List.set_cons_succ, i64_w, i32_w]
            rfl
          refine pure_ (i := 4) (N := some 39) (v := ?_) (a' := ?_) #[true, true, true, true, true] rfl rfl (by kernel_rfl) (fun _ _ _ h => h) (Or.inl ⟨by rfl, ?_⟩) ?_ ?_
          rotate_left
          · intro w'
            go_simp
            with_reducible rfl
          rotate_left
          · simp only [Act.put, List.setIfInBounds_toArray, List.set_cons_zero, List.set_cons_succ, i64_w, i32_w]
            rfl
          refine done_ (by kernel_rfl) ?_
          try go_wp2
          go_ret
          exact ⟨by first | rfl | (simp [errW_none, errW_some] <;> rfl) | (simp [*, errW_none, errW_some] <;> rfl), by repeat (first | (with_reducible first | exact HB.out | apply below_alloc | apply pw_below_drewN | apply below_drew1 | refine below_set ?_ GE161.out | refine below_set ?_ GE162.out | refine below_set ?_ GE202.out | refine below_set ?_ GE215.out) | exact HB.out)⟩

end Go.Proofs.Ytnikdfcdddlfbaa.PFnExactSameDevice
