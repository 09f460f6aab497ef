/- Functions and contracts of the law FnTold: what the Go text computes, step by step. -/
import Derived.Test.YtfiplepbmennbaaM
import Derived.Test.YtfiplepbmennbaaL
import Derived.Test.YtfiplepbmennbaaQFnToldx0
import Derived.Test.YtfiplepbmennbaaQFnToldx5
import Derived.Test.YtfiplepbmennbaaQFnToldx6
namespace Go.Proofs.Ytfiplepbmennbaa.PFnTold
open Go.Proofs.Ytfiplepbmennbaa.K Go.Proofs.Ytfiplepbmennbaa.G Go.RowKit Go.Proofs.YtfiplepbmennbaaW.PrintWords Go.Proofs.YtfiplepbmennbaaW.PrintLast Go.Proofs.YtfiplepbmennbaaW.PrintMore
attribute [local go_sem] max2_int min2_int max_two min_two max_three min_three max_four min_four   -- for this text's walks alone
set_option linter.unusedVariables false
set_option linter.unusedSimpArgs false

/-! ### spec_RespOk: function 22 -/
mutual
def spec_RespOk.j0 : Nat → Bool → Int → Int → Int → Int → List Int → List Bool → Option (Bool)
 | 0, _, _, _, _, _, _, _ => none
 | k + 1, x24, x391000, x391001, x391002, x391003, x391004, x391005 => if x24 = true then (some false) else (if x391001 > 0 then ((spec_l4Zero.f x391000 x391001 x391002 x391003 x391004 x391005 false false false false).bind fun t395 => (some t395)) else (if x391000 = 1 then (spec_RespOk.j1 k x391000 (x391000 == 1) x391000 x391001 x391002 x391003 x391004 x391005) else (spec_RespOk.j1 k x391000 (x391000 == 2) x391000 x391001 x391002 x391003 x391004 x391005)))
def spec_RespOk.j1 : Nat → Int → Bool → Int → Int → Int → Int → List Int → List Bool → Option (Bool)
 | 0, _, _, _, _, _, _, _, _ => none
 | k + 1, x31, x32, x391000, x391001, x391002, x391003, x391004, x391005 => if x32 = true then ((spec_l4Zero.f x391000 x391001 x391002 x391003 x391004 x391005 false false false true).bind fun t396 => (if t396 = true then ((spec_l1In.f (x391005.length : Int) 1 2000).bind fun t397 => (if t397 = true then (some (((x391005.length : Int) % 8) == 0)) else (some false))) else (some false))) else (if x31 = 3 then (spec_RespOk.j2 k x31 (x31 == 3) x391000 x391001 x391002 x391003 x391004 x391005) else (if x31 = 4 then (spec_RespOk.j2 k x31 (x31 == 4) x391000 x391001 x391002 x391003 x391004 x391005) else (spec_RespOk.j2 k x31 (x31 == 23) x391000 x391001 x391002 x391003 x391004 x391005)))
def spec_RespOk.j2 : Nat → Int → Bool → Int → Int → Int → Int → List Int → List Bool → Option (Bool)
 | 0, _, _, _, _, _, _, _, _ => none
 | k + 1, x31, x50, x391000, x391001, x391002, x391003, x391004, x391005 => if x50 = true then ((spec_l4Zero.f x391000 x391001 x391002 x391003 x391004 x391005 false false true false).bind fun t398 => (if t398 = true then ((spec_l1In.f (x391004.length : Int) 1 125).bind fun t399 => (some t399)) else (some false))) else (if x31 = 5 then ((spec_l4Zero.f x391000 x391001 x391002 x391003 x391004 x391005 true false false true).bind fun t400 => (if t400 = true then (some ((x391005.length : Int) == 1)) else (some false))) else (if x31 = 6 then ((spec_l4Zero.f x391000 x391001 x391002 x391003 x391004 x391005 true false true false).bind fun t401 => (if t401 = true then (some ((x391004.length : Int) == 1)) else (some false))) else (if x31 = 22 then ((spec_l4Zero.f x391000 x391001 x391002 x391003 x391004 x391005 true false true false).bind fun t402 => (if t402 = true then (some ((x391004.length : Int) == 2)) else (some false))) else (if x31 = 15 then ((spec_l4Zero.f x391000 x391001 x391002 x391003 x391004 x391005 true true false false).bind fun t403 => (if t403 = true then ((spec_l1In.f x391003 1 1968).bind fun t404 => (some t404)) else (some false))) else ((spec_l4Zero.f x391000 x391001 x391002 x391003 x391004 x391005 true true false false).bind fun t405 => (if t405 = true then ((spec_l1In.f x391003 1 123).bind fun t406 => (some t406)) else (some false)))))))
end
def spec_RespOk.f (k : Nat) (a0_0 : Int) (a0_1 : Int) (a0_2 : Int) (a0_3 : Int) (l0_4 : List Int) (l0_5 : List Bool) : Option (Bool) := (spec_l3Kind.f a0_0).bind fun t391 => (if t391 = true then ((spec_l1In.f a0_1 0 255).bind fun t392 => (if t392 = true then ((spec_l3Words.f k l0_4).bind fun t393 => (if t393 = true then ((spec_l1In.f a0_2 0 65535).bind fun t394 => (spec_RespOk.j0 k (!t394) a0_0 a0_1 a0_2 a0_3 l0_4 l0_5)) else (spec_RespOk.j0 k true a0_0 a0_1 a0_2 a0_3 l0_4 l0_5))) else (spec_RespOk.j0 k true a0_0 a0_1 a0_2 a0_3 l0_4 l0_5))) else (spec_RespOk.j0 k true a0_0 a0_1 a0_2 a0_3 l0_4 l0_5))
theorem spec_RespOk.mono_l : ∀ k, (∀ y0 y1 y2 y3 y4 y5 y6, LeO (spec_RespOk.j0 k y0 y1 y2 y3 y4 y5 y6) (spec_RespOk.j0 (k + 1) y0 y1 y2 y3 y4 y5 y6)) ∧ (∀ y0 y1 y2 y3 y4 y5 y6 y7, LeO (spec_RespOk.j1 k y0 y1 y2 y3 y4 y5 y6 y7) (spec_RespOk.j1 (k + 1) y0 y1 y2 y3 y4 y5 y6 y7)) ∧ (∀ y0 y1 y2 y3 y4 y5 y6 y7, LeO (spec_RespOk.j2 k y0 y1 y2 y3 y4 y5 y6 y7) (spec_RespOk.j2 (k + 1) y0 y1 y2 y3 y4 y5 y6 y7))
 | 0 => ⟨fun _ _ _ _ _ _ _ r h => by simp [spec_RespOk.j0] at h, fun _ _ _ _ _ _ _ _ r h => by simp [spec_RespOk.j1] at h, fun _ _ _ _ _ _ _ _ r h => by simp [spec_RespOk.j2] at h⟩
 | k + 1 => by
  obtain ⟨ih0, ih1, ih2⟩ := spec_RespOk.mono_l k
  refine ⟨?_, ?_, ?_⟩
  ·intro y0 y1 y2 y3 y4 y5 y6
   unfold spec_RespOk.j0
   repeat' first
   | (with_reducible exact ih0 _ _ _ _ _ _ _)
   | (with_reducible exact ih1 _ _ _ _ _ _ _ _)
   | (with_reducible exact ih2 _ _ _ _ _ _ _ _)
   | (with_reducible exact spec_l3Words.mono _ _)
   | (with_reducible exact LeO.refl _)
   | (with_reducible exact LeO.none _)
   | (with_reducible refine LeO.ite ?_ ?_)
   | (with_reducible refine LeO.bind ?_ (fun _ => ?_))
   | exact ih0 _ _ _ _ _ _ _
   | exact ih1 _ _ _ _ _ _ _ _
   | exact ih2 _ _ _ _ _ _ _ _
   | exact spec_l3Words.mono _ _
   | exact LeO.none _
   | refine LeO.ite ?_ ?_
   | refine LeO.bind ?_ (fun _ => ?_)
  ·intro y0 y1 y2 y3 y4 y5 y6 y7
   unfold spec_RespOk.j1
   repeat' first
   | (with_reducible exact ih0 _ _ _ _ _ _ _)
   | (with_reducible exact ih1 _ _ _ _ _ _ _ _)
   | (with_reducible exact ih2 _ _ _ _ _ _ _ _)
   | (with_reducible exact spec_l3Words.mono _ _)
   | (with_reducible exact LeO.refl _)
   | (with_reducible exact LeO.none _)
   | (with_reducible refine LeO.ite ?_ ?_)
   | (with_reducible refine LeO.bind ?_ (fun _ => ?_))
   | exact ih0 _ _ _ _ _ _ _
   | exact ih1 _ _ _ _ _ _ _ _
   | exact ih2 _ _ _ _ _ _ _ _
   | exact spec_l3Words.mono _ _
   | exact LeO.none _
   | refine LeO.ite ?_ ?_
   | refine LeO.bind ?_ (fun _ => ?_)
  ·intro y0 y1 y2 y3 y4 y5 y6 y7
   unfold spec_RespOk.j2
   repeat' first
   | (with_reducible exact ih0 _ _ _ _ _ _ _)
   | (with_reducible exact ih1 _ _ _ _ _ _ _ _)
   | (with_reducible exact ih2 _ _ _ _ _ _ _ _)
   | (with_reducible exact spec_l3Words.mono _ _)
   | (with_reducible exact LeO.refl _)
   | (with_reducible exact LeO.none _)
   | (with_reducible refine LeO.ite ?_ ?_)
   | (with_reducible refine LeO.bind ?_ (fun _ => ?_))
   | exact ih0 _ _ _ _ _ _ _
   | exact ih1 _ _ _ _ _ _ _ _
   | exact ih2 _ _ _ _ _ _ _ _
   | exact spec_l3Words.mono _ _
   | exact LeO.none _
   | refine LeO.ite ?_ ?_
   | refine LeO.bind ?_ (fun _ => ?_)
theorem spec_RespOk.mono : ∀ a0 a1 a2 a3 a4 a5 k, LeO (spec_RespOk.f k a0 a1 a2 a3 a4 a5) (spec_RespOk.f (k + 1) a0 a1 a2 a3 a4 a5) := by
 intro a0 a1 a2 a3 a4 a5 k
 obtain ⟨ih0, ih1, ih2⟩ := spec_RespOk.mono_l k
 unfold spec_RespOk.f
 repeat' first
   | (with_reducible exact ih0 _ _ _ _ _ _ _)
   | (with_reducible exact ih1 _ _ _ _ _ _ _ _)
   | (with_reducible exact ih2 _ _ _ _ _ _ _ _)
   | (with_reducible exact spec_l3Words.mono _ _)
   | (with_reducible exact LeO.refl _)
   | (with_reducible exact LeO.none _)
   | (with_reducible refine LeO.ite ?_ ?_)
   | (with_reducible refine LeO.bind ?_ (fun _ => ?_))
   | exact ih0 _ _ _ _ _ _ _
   | exact ih1 _ _ _ _ _ _ _ _
   | exact ih2 _ _ _ _ _ _ _ _
   | exact spec_l3Words.mono _ _
   | exact LeO.none _
   | refine LeO.ite ?_ ?_
   | refine LeO.bind ?_ (fun _ => ?_)
set_option maxHeartbeats 8000000 in
set_option maxRecDepth 100000 in
theorem spec_RespOk.calls (k : Nat) (a0_0 : Int) (a0_1 : Int) (a0_2 : Int) (a0_3 : Int) (A0_4 : Option Addr) (c0_4 : Nat) (l0_4 : List Int) (A0_5 : Option Addr) (c0_5 : Nat) (l0_5 : List Bool) (r : Bool) (w : World) (hr0_4 : Kd.C (Kd.int .i64) w A0_4 l0_4.length l0_4) (hc0_4 : l0_4.length ≤ c0_4) (hr0_5 : Kd.C Kd.bool w A0_5 l0_5.length l0_5) (hc0_5 : l0_5.length ≤ c0_5) (h : spec_RespOk.f k a0_0 a0_1 a0_2 a0_3 l0_4 l0_5 = some r) :
  Calls Try.prog 22 #[.agg #[.int .i64 a0_0, .int .i64 a0_1, .int .i64 a0_2, .int .i64 a0_3, .slice A0_4 l0_4.length c0_4, .slice A0_5 l0_5.length c0_5]] w fun e w' => e = .returned (.bool r) ∧ Below w.heap.size w w' := by
 have hu29 := Try.underlying29
 have HR0_4 := aM hr0_4
 have HC0_4 := aM hc0_4
 clear hr0_4 hc0_4
 have HR0_5 := aM hr0_5
 have HC0_5 := aM hc0_5
 clear hr0_5 hc0_5
 have HB := aM (Below.refl w.heap.size w)
 have H : ((spec_l3Kind.f a0_0).bind fun t391 => (if t391 = true then ((spec_l1In.f a0_1 0 255).bind fun t392 => (if t392 = true then ((spec_l3Words.f k l0_4).bind fun t393 => (if t393 = true then ((spec_l1In.f a0_2 0 65535).bind fun t394 => (spec_RespOk.j0 k (!t394) a0_0 a0_1 a0_2 a0_3 l0_4 l0_5)) else (spec_RespOk.j0 k true a0_0 a0_1 a0_2 a0_3 l0_4 l0_5))) else (spec_RespOk.j0 k true a0_0 a0_1 a0_2 a0_3 l0_4 l0_5))) else (spec_RespOk.j0 k true a0_0 a0_1 a0_2 a0_3 l0_4 l0_5))) = some r := h
 clear h
 have HC2 := aM H
 clear H
 go_enter Try.func22, Try.ntmps22
 go_upto_region 1 with (first | ((with_reducible refine gate_dst (N := 1) rfl ?_); (try (refine gate_guard (by rfl) ?_; dsimp only)); refine box_event ?hg (N := 1) ?hd (cs := #[.int .i64 a0_0, .int .i64 a0_1, .int .i64 a0_2, .int .i64 a0_3, .slice A0_4 l0_4.length c0_4, .slice A0_5 l0_5.length c0_5]) (t := 29) ?hr ?_; (case hd => rfl); (case hg => rfl); (case hr => first | (go_simp; done) | (go_simp; rfl)); intro gb390 hg w3 hbox hb; have _ := aM (below_step (bS HB.out) hb); have _ := aM (hbox); have _ := aM (leG hg (bS HB.out)); have _ := aM (leG hg (bS HB.out)); clear HB; rename_i HB BK390 GW390 GE390; clear hb hbox hg))
 (try simp only [Act.put, List.setIfInBounds_toArray, List.set_cons_zero, List.set_cons_succ])
 go_cut [24] (fun v24 wc => ∃ (kq : Nat) (x24_1 : Bool), v24 = .bool x24_1 ∧ Aside0 (spec_RespOk.j0 kq x24_1 a0_0 a0_1 a0_2 a0_3 l0_4 l0_5 = some r) ∧ Aside0 (kq ≤ k) ∧ Aside0 (wc.heap[gb390]? = some (.cells #[.int .i64 a0_0, .int .i64 a0_1, .int .i64 a0_2, .int .i64 a0_3, (.slice A0_4 l0_4.length c0_4), (.slice A0_5 l0_5.length c0_5)] 29 (0, 0))) ∧ Aside0 (Below w.heap.size w wc))
 case first =>
  have H := HC2.out
  clear HC2
  replace H := Option.bind_eq_some_iff.mp H
  obtain ⟨t391, A40, H⟩ := H
  (try dsimp only at H)
  have A4 := aM A40
  clear A40
  by_cases c5 : t391 = true
  rotate_left
  ·replace c5 := Bool.eq_false_iff.mpr c5
   subst c5
   rw [if_neg (show ¬ (false = true) by decide)] at H
   (try dsimp only at H)
   have H' := aM H
   clear H
   obtain ⟨hcz14_0, hfz14_0, hcz14_1, hfz14_1, hcz14_2, hfz14_2, hcz14_3, hfz14_3, hcz14_4, hfz14_4, hcz14_5, hfz14_5⟩ := bk6 BK390.out
   go_wp2_with (first | ((with_reducible refine gate_callee (f := 45) rfl ?_); refine gL (some 5) rfl rfl Try.func45 (by kernel_rfl) rfl #[.int .i64 a0_0] rfl ?_; (with_reducible refine (spec_l3Kind.calls a0_0 false _ A4.out).mono ?_); rintro e w' ⟨rfl, ⟨nd, rfl⟩⟩; refine ⟨_, rfl, ?_⟩))
   go_meet
   case rel => exact ⟨_, (true), (by first | rfl | (simp; done) | (simp [*]; done)), H', ⟨by first | omega | exact Nat.le_refl _⟩, ⟨kX BK390.out⟩, ⟨bS HB.out⟩⟩
  subst c5
  rw [if_pos rfl] at H
  (try dsimp only at H)
  replace H := Option.bind_eq_some_iff.mp H
  obtain ⟨t392, A60, H⟩ := H
  (try dsimp only at H)
  have A6 := aM A60
  clear A60
  by_cases c7 : t392 = true
  rotate_left
  ·replace c7 := Bool.eq_false_iff.mpr c7
   subst c7
   rw [if_neg (show ¬ (false = true) by decide)] at H
   (try dsimp only at H)
   have H' := aM H
   clear H
   obtain ⟨hcz13_0, hfz13_0, hcz13_1, hfz13_1, hcz13_2, hfz13_2, hcz13_3, hfz13_3, hcz13_4, hfz13_4, hcz13_5, hfz13_5⟩ := bk6 BK390.out
   go_wp2_with (first | ((with_reducible refine gate_callee (f := 45) rfl ?_); refine gL (some 5) rfl rfl Try.func45 (by kernel_rfl) rfl #[.int .i64 a0_0] rfl ?_; (with_reducible refine (spec_l3Kind.calls a0_0 true _ A4.out).mono ?_); rintro e w' ⟨rfl, ⟨nd, rfl⟩⟩; refine ⟨_, rfl, ?_⟩) | (go_at_call 57; (with_reducible refine (spec_l1In.calls a0_1 0 255 false _ A6.out).mono ?_); rintro e w' ⟨rfl, ⟨nd, rfl⟩⟩))
   go_meet
   case rel => exact ⟨_, (true), (by first | rfl | (simp; done) | (simp [*]; done)), H', ⟨by first | omega | exact Nat.le_refl _⟩, ⟨kX BK390.out⟩, ⟨bS HB.out⟩⟩
  subst c7
  rw [if_pos rfl] at H
  (try dsimp only at H)
  replace H := Option.bind_eq_some_iff.mp H
  obtain ⟨t393, A80, H⟩ := H
  (try dsimp only at H)
  have A8 := aM A80
  clear A80
  by_cases c9 : t393 = true
  rotate_left
  ·replace c9 := Bool.eq_false_iff.mpr c9
   subst c9
   rw [if_neg (show ¬ (false = true) by decide)] at H
   (try dsimp only at H)
   have H' := aM H
   clear H
   obtain ⟨hcz12_0, hfz12_0, hcz12_1, hfz12_1, hcz12_2, hfz12_2, hcz12_3, hfz12_3, hcz12_4, hfz12_4, hcz12_5, hfz12_5⟩ := bk6 BK390.out
   go_wp2_with (first | ((with_reducible refine gate_callee (f := 45) rfl ?_); refine gL (some 5) rfl rfl Try.func45 (by kernel_rfl) rfl #[.int .i64 a0_0] rfl ?_; (with_reducible refine (spec_l3Kind.calls a0_0 true _ A4.out).mono ?_); rintro e w' ⟨rfl, ⟨nd, rfl⟩⟩; refine ⟨_, rfl, ?_⟩) | (go_at_call 57; (with_reducible refine (spec_l1In.calls a0_1 0 255 true _ A6.out).mono ?_); rintro e w' ⟨rfl, ⟨nd, rfl⟩⟩) | (go_at_call 58; (with_reducible refine (spec_l3Words.calls k _ _ l0_4 false _ ?side1 ?side2 A8.out).mono ?_); (case side1 => repeat (first | exact (Kd.C_below HR0_4.out (bS HB.out)) | (with_reducible refine Kd.C_alloc ?_ _) | (with_reducible refine Kd.C_drewN ?_ _) | (with_reducible refine Kd.C_drew ?_))); (case side2 => exact HC0_4.out); rintro e w' ⟨rfl, ⟨nd, rfl⟩⟩))
   go_meet
   case rel => exact ⟨_, (true), (by first | rfl | (simp; done) | (simp [*]; done)), H', ⟨by first | omega | exact Nat.le_refl _⟩, ⟨kX BK390.out⟩, ⟨bS HB.out⟩⟩
  subst c9
  rw [if_pos rfl] at H
  (try dsimp only at H)
  replace H := Option.bind_eq_some_iff.mp H
  obtain ⟨t394, A100, H⟩ := H
  (try dsimp only at H)
  have A10 := aM A100
  clear A100
  have H' := aM H
  clear H
  obtain ⟨hcz11_0, hfz11_0, hcz11_1, hfz11_1, hcz11_2, hfz11_2, hcz11_3, hfz11_3, hcz11_4, hfz11_4, hcz11_5, hfz11_5⟩ := bk6 BK390.out
  go_wp2_with (first | ((with_reducible refine gate_callee (f := 45) rfl ?_); refine gL (some 5) rfl rfl Try.func45 (by kernel_rfl) rfl #[.int .i64 a0_0] rfl ?_; (with_reducible refine (spec_l3Kind.calls a0_0 true _ A4.out).mono ?_); rintro e w' ⟨rfl, ⟨nd, rfl⟩⟩; refine ⟨_, rfl, ?_⟩) | (go_at_call 57; (with_reducible refine (spec_l1In.calls a0_1 0 255 true _ A6.out).mono ?_); rintro e w' ⟨rfl, ⟨nd, rfl⟩⟩) | (go_at_call 58; (with_reducible refine (spec_l3Words.calls k _ _ l0_4 true _ ?side1 ?side2 A8.out).mono ?_); (case side1 => repeat (first | exact (Kd.C_below HR0_4.out (bS HB.out)) | (with_reducible refine Kd.C_alloc ?_ _) | (with_reducible refine Kd.C_drewN ?_ _) | (with_reducible refine Kd.C_drew ?_))); (case side2 => exact HC0_4.out); rintro e w' ⟨rfl, ⟨nd, rfl⟩⟩) | (go_at_call 57; (with_reducible refine (spec_l1In.calls a0_2 0 65535 t394 _ A10.out).mono ?_); rintro e w' ⟨rfl, ⟨nd, rfl⟩⟩))
  go_meet
  case rel => exact ⟨_, (!t394), (by first | rfl | (simp; done) | (simp [*]; done)), H', ⟨by first | omega | exact Nat.le_refl _⟩, ⟨kX BK390.out⟩, ⟨bS HB.out⟩⟩
 case rest =>
  clear HC2
  obtain ⟨kq, x24_1, rfl, HA, HJ1, BK390, HB⟩ := hcut
  cases kq with
  | zero => exact absurd HA.out (by simp [spec_RespOk.j0])
  | succ kj1 =>
   have H := HA.out
   clear HA
   simp only [spec_RespOk.j0] at H
   by_cases c15 : x24_1 = true
   ·subst c15
    rw [if_pos rfl] at H
    (try dsimp only at H)
    obtain rfl := Option.some.inj H
    go_wp2
    go_ret
    exact ⟨by first | rfl | (simp [errW_none, errW_some] <;> rfl) | (simp [*, errW_none, errW_some] <;> rfl), bS HB.out⟩
   ·replace c15 := Bool.eq_false_iff.mpr c15
    subst c15
    rw [if_neg (show ¬ (false = true) by decide)] at H
    (try dsimp only at H)
    by_cases c16 : a0_1 > 0
    ·rw [if_pos c16] at H
     have c16b0 : decide (0 < a0_1) = true := decide_eq_true c16
     clear c16
     replace H := Option.bind_eq_some_iff.mp H
     obtain ⟨t395, A170, H⟩ := H
     (try dsimp only at H)
     have A17 := aM A170
     clear A170
     obtain rfl := Option.some.inj H
     obtain ⟨hcz18_0, hfz18_0, hcz18_1, hfz18_1, hcz18_2, hfz18_2, hcz18_3, hfz18_3, hcz18_4, hfz18_4, hcz18_5, hfz18_5⟩ := bk6 BK390.out
     go_wp2_with (first | ((with_reducible refine gate_callee (f := 59) rfl ?_); refine gL (some 29) rfl rfl Try.func59 (by kernel_rfl) rfl #[.agg #[.int .i64 a0_0, .int .i64 a0_1, .int .i64 a0_2, .int .i64 a0_3, .slice A0_4 l0_4.length c0_4, .slice A0_5 l0_5.length c0_5], .bool false, .bool false, .bool false, .bool false] rfl ?_; (with_reducible refine (spec_l4Zero.calls a0_0 a0_1 a0_2 a0_3 _ _ l0_4 _ _ l0_5 false false false false t395 _ ?side1 ?side2 ?side3 ?side4 A17.out).mono ?_); (case side1 => exact cB HR0_4.out HB.out); (case side2 => exact HC0_4.out); (case side3 => exact cB HR0_5.out HB.out); (case side4 => exact HC0_5.out); rintro e w19 ⟨rfl, hb⟩; refine ⟨_, rfl, ?_⟩; have _ := aM (kB BK390.out hb); have _ := aM (below_step (bS HB.out) hb); clear BK390 HB; rename_i BK390 HB; (try clear hb)))
     go_ret
     exact ⟨by first | rfl | (simp [errW_none, errW_some] <;> rfl) | (simp [*, errW_none, errW_some] <;> rfl), bS HB.out⟩
    ·rw [if_neg c16] at H
     have c16b0 : decide (0 < a0_1) = false := decide_eq_false c16
     clear c16
     have HC20 := aM H
     clear H
     obtain ⟨hcz21_0, hfz21_0, hcz21_1, hfz21_1, hcz21_2, hfz21_2, hcz21_3, hfz21_3, hcz21_4, hfz21_4, hcz21_5, hfz21_5⟩ := bk6 BK390.out
     go_upto_if 32 with (fail)
     go_cut [32] (fun v32 wc => ∃ (kq : Nat) (x32_19 : Bool), v32 = .bool x32_19 ∧ Aside0 (spec_RespOk.j1 kq a0_0 x32_19 a0_0 a0_1 a0_2 a0_3 l0_4 l0_5 = some r) ∧ Aside0 (kq ≤ kj1) ∧ Aside0 (wc.heap[gb390]? = some (.cells #[.int .i64 a0_0, .int .i64 a0_1, .int .i64 a0_2, .int .i64 a0_3, (.slice A0_4 l0_4.length c0_4), (.slice A0_5 l0_5.length c0_5)] 29 (0, 0))) ∧ Aside0 (Below w.heap.size w wc))
     case first =>
      have H := HC20.out
      clear HC20
      by_cases c22 : a0_0 = 1
      rotate_left
      ·rw [if_neg c22] at H
       have c22b0 : (a0_0 == 1) = false := beq_eq_false_iff_ne.mpr c22
       have c22b1 : (a0_0 != 1) = true := bne_iff_ne.mpr c22
       (first | rw [c22b0] | (simp only [i64_w, i32_w]; rw [c22b0]) | skip)
       have H' := aM H
       clear H
       go_wp2
       go_meet
       case rel => exact ⟨_, ((a0_0 == 2)), (by first | rfl | (simp; done) | (simp [*]; done)), H', ⟨by have := HJ1.out; first | omega | exact Nat.le_refl _⟩, ⟨kX BK390.out⟩, ⟨bS HB.out⟩⟩
      rw [if_pos c22] at H
      have c22b0 : (a0_0 == 1) = true := beq_iff_eq.mpr c22
      have c22b1 : (a0_0 != 1) = false := bne_eq_false_iff_eq.mpr c22
      clear c22
      (first | rw [c22b0] | (simp only [i64_w, i32_w]; rw [c22b0]) | skip)
      have H' := aM H
      clear H
      go_wp2
      go_meet
      case rel => exact ⟨_, ((a0_0 == 1)), (by first | rfl | (simp; done) | (simp [*]; done)), H', ⟨by have := HJ1.out; first | omega | exact Nat.le_refl _⟩, ⟨kX BK390.out⟩, ⟨bS HB.out⟩⟩
     case rest =>
      clear HC20
      try clear c2
      try clear p2
      try clear c4
      try clear c5
      try clear c7
      try clear c9
      try clear c15
      try clear c16
      try clear c16b0
      try clear hcz11_0
      try clear hcz11_1
      try clear hcz11_2
      try clear hcz11_3
      try clear hcz11_4
      try clear hcz11_5
      try clear hcz12_0
      try clear hcz12_1
      try clear hcz12_2
      try clear hcz12_3
      try clear hcz12_4
      try clear hcz12_5
      try clear hcz13_0
      try clear hcz13_1
      try clear hcz13_2
      try clear hcz13_3
      try clear hcz13_4
      try clear hcz13_5
      try clear hcz14_0
      try clear hcz14_1
      try clear hcz14_2
      try clear hcz14_3
      try clear hcz14_4
      try clear hcz14_5
      try clear hcz18_0
      try clear hcz18_1
      try clear hcz18_2
      try clear hcz18_3
      try clear hcz18_4
      try clear hcz18_5
      try clear hcz21_0
      try clear hcz21_1
      try clear hcz21_2
      try clear hcz21_3
      try clear hcz21_4
      try clear hcz21_5
      try clear hfz11_0
      try clear hfz11_1
      try clear hfz11_2
      try clear hfz11_3
      try clear hfz11_4
      try clear hfz11_5
      try clear hfz12_0
      try clear hfz12_1
      try clear hfz12_2
      try clear hfz12_3
      try clear hfz12_4
      try clear hfz12_5
      try clear hfz13_0
      try clear hfz13_1
      try clear hfz13_2
      try clear hfz13_3
      try clear hfz13_4
      try clear hfz13_5
      try clear hfz14_0
      try clear hfz14_1
      try clear hfz14_2
      try clear hfz14_3
      try clear hfz14_4
      try clear hfz14_5
      try clear hfz18_0
      try clear hfz18_1
      try clear hfz18_2
      try clear hfz18_3
      try clear hfz18_4
      try clear hfz18_5
      try clear hfz21_0
      try clear hfz21_1
      try clear hfz21_2
      try clear hfz21_3
      try clear hfz21_4
      try clear hfz21_5
      try clear p2
      obtain ⟨kq, x32_19, rfl, HA, HJ19, BK390, HB⟩ := hcut
      cases kq with
      | zero => exact absurd HA.out (by simp [spec_RespOk.j1])
      | succ kj19 =>
       have H := HA.out
       clear HA
       simp only [spec_RespOk.j1] at H
       by_cases c23 : x32_19 = true
       ·subst c23
        rw [if_pos rfl] at H
        (try dsimp only at H)
        replace H := Option.bind_eq_some_iff.mp H
        obtain ⟨t396, A240, H⟩ := H
        (try dsimp only at H)
        have A24 := aM A240
        clear A240
        by_cases c25 : t396 = true
        rotate_left
        ·replace c25 := Bool.eq_false_iff.mpr c25
         subst c25
         rw [if_neg (show ¬ (false = true) by decide)] at H
         (try dsimp only at H)
         obtain rfl := Option.some.inj H
         obtain ⟨hcz34_0, hfz34_0, hcz34_1, hfz34_1, hcz34_2, hfz34_2, hcz34_3, hfz34_3, hcz34_4, hfz34_4, hcz34_5, hfz34_5⟩ := bk6 BK390.out
         go_wp2_with (first | ((with_reducible refine gate_callee (f := 59) rfl ?_); refine gL (some 36) rfl rfl Try.func59 (by kernel_rfl) rfl #[.agg #[.int .i64 a0_0, .int .i64 a0_1, .int .i64 a0_2, .int .i64 a0_3, .slice A0_4 l0_4.length c0_4, .slice A0_5 l0_5.length c0_5], .bool false, .bool false, .bool false, .bool true] rfl ?_; (with_reducible refine (spec_l4Zero.calls a0_0 a0_1 a0_2 a0_3 _ _ l0_4 _ _ l0_5 false false false true false _ ?side1 ?side2 ?side3 ?side4 A24.out).mono ?_); (case side1 => exact cB HR0_4.out HB.out); (case side2 => exact HC0_4.out); (case side3 => exact cB HR0_5.out HB.out); (case side4 => exact HC0_5.out); rintro e w35 ⟨rfl, hb⟩; refine ⟨_, rfl, ?_⟩; have _ := aM (kB BK390.out hb); have _ := aM (below_step (bS HB.out) hb); clear BK390 HB; rename_i BK390 HB; (try clear hb)))
         go_ret
         exact ⟨by first | rfl | (simp [errW_none, errW_some] <;> rfl) | (simp [*, errW_none, errW_some] <;> rfl), bS HB.out⟩
        subst c25
        rw [if_pos rfl] at H
        (try dsimp only at H)
        replace H := Option.bind_eq_some_iff.mp H
        obtain ⟨t397, A260, H⟩ := H
        (try dsimp only at H)
        have A26 := aM A260
        clear A260
        by_cases c27 : t397 = true
        rotate_left
        ·replace c27 := Bool.eq_false_iff.mpr c27
         subst c27
         rw [if_neg (show ¬ (false = true) by decide)] at H
         (try dsimp only at H)
         obtain rfl := Option.some.inj H
         obtain ⟨hcz31_0, hfz31_0, hcz31_1, hfz31_1, hcz31_2, hfz31_2, hcz31_3, hfz31_3, hcz31_4, hfz31_4, hcz31_5, hfz31_5⟩ := bk6 BK390.out
         go_wp2_with (first | ((with_reducible refine gate_callee (f := 59) rfl ?_); refine gL (some 36) rfl rfl Try.func59 (by kernel_rfl) rfl #[.agg #[.int .i64 a0_0, .int .i64 a0_1, .int .i64 a0_2, .int .i64 a0_3, .slice A0_4 l0_4.length c0_4, .slice A0_5 l0_5.length c0_5], .bool false, .bool false, .bool false, .bool true] rfl ?_; (with_reducible refine (spec_l4Zero.calls a0_0 a0_1 a0_2 a0_3 _ _ l0_4 _ _ l0_5 false false false true true _ ?side1 ?side2 ?side3 ?side4 A24.out).mono ?_); (case side1 => exact cB HR0_4.out HB.out); (case side2 => exact HC0_4.out); (case side3 => exact cB HR0_5.out HB.out); (case side4 => exact HC0_5.out); rintro e w32 ⟨rfl, hb⟩; refine ⟨_, rfl, ?_⟩; have _ := aM (kB BK390.out hb); have _ := aM (below_step (bS HB.out) hb); clear BK390 HB; rename_i BK390 HB; (try clear hb); obtain ⟨hcz33_0, hfz33_0, hcz33_1, hfz33_1, hcz33_2, hfz33_2, hcz33_3, hfz33_3, hcz33_4, hfz33_4, hcz33_5, hfz33_5⟩ := bk6 BK390.out) | (go_at_call 57; (with_reducible refine (spec_l1In.calls (l0_5.length : Int) 1 2000 false _ A26.out).mono ?_); rintro e w' ⟨rfl, ⟨nd, rfl⟩⟩))
         go_ret
         exact ⟨by first | rfl | (simp [errW_none, errW_some] <;> rfl) | (simp [*, errW_none, errW_some] <;> rfl), bS HB.out⟩
        subst c27
        rw [if_pos rfl] at H
        (try dsimp only at H)
        obtain rfl := Option.some.inj H
        obtain ⟨hcz28_0, hfz28_0, hcz28_1, hfz28_1, hcz28_2, hfz28_2, hcz28_3, hfz28_3, hcz28_4, hfz28_4, hcz28_5, hfz28_5⟩ := bk6 BK390.out
        go_wp2_with (first | ((with_reducible refine gate_callee (f := 59) rfl ?_); refine gL (some 36) rfl rfl Try.func59 (by kernel_rfl) rfl #[.agg #[.int .i64 a0_0, .int .i64 a0_1, .int .i64 a0_2, .int .i64 a0_3, .slice A0_4 l0_4.length c0_4, .slice A0_5 l0_5.length c0_5], .bool false, .bool false, .bool false, .bool true] rfl ?_; (with_reducible refine (spec_l4Zero.calls a0_0 a0_1 a0_2 a0_3 _ _ l0_4 _ _ l0_5 false false false true true _ ?side1 ?side2 ?side3 ?side4 A24.out).mono ?_); (case side1 => exact cB HR0_4.out HB.out); (case side2 => exact HC0_4.out); (case side3 => exact cB HR0_5.out HB.out); (case side4 => exact HC0_5.out); rintro e w29 ⟨rfl, hb⟩; refine ⟨_, rfl, ?_⟩; have _ := aM (kB BK390.out hb); have _ := aM (below_step (bS HB.out) hb); clear BK390 HB; rename_i BK390 HB; (try clear hb); obtain ⟨hcz30_0, hfz30_0, hcz30_1, hfz30_1, hcz30_2, hfz30_2, hcz30_3, hfz30_3, hcz30_4, hfz30_4, hcz30_5, hfz30_5⟩ := bk6 BK390.out) | (go_at_call 57; (with_reducible refine (spec_l1In.calls (l0_5.length : Int) 1 2000 true _ A26.out).mono ?_); rintro e w' ⟨rfl, ⟨nd, rfl⟩⟩))
        go_ret
        exact ⟨by first | rfl | (simp [errW_none, errW_some] <;> rfl) | (simp [*, errW_none, errW_some] <;> rfl), bS HB.out⟩
       ·replace c23 := Bool.eq_false_iff.mpr c23
        subst c23
        rw [if_neg (show ¬ (false = true) by decide)] at H
        (try dsimp only at H)
        have HC36 := aM H
        clear H
        go_upto_if 50 with (fail)
        go_cut [50] (fun v50 wc => ∃ (kq : Nat) (x50_35 : Bool), v50 = .bool x50_35 ∧ Aside0 (spec_RespOk.j2 kq a0_0 x50_35 a0_0 a0_1 a0_2 a0_3 l0_4 l0_5 = some r) ∧ Aside0 (kq ≤ kj19) ∧ Aside0 (wc.heap[gb390]? = some (.cells #[.int .i64 a0_0, .int .i64 a0_1, .int .i64 a0_2, .int .i64 a0_3, (.slice A0_4 l0_4.length c0_4), (.slice A0_5 l0_5.length c0_5)] 29 (0, 0))) ∧ Aside0 (Below w.heap.size w wc))
        case first =>
         have H := HC36.out
         clear HC36
         by_cases c37 : a0_0 = 3
         ·rw [if_pos c37] at H
          have c37b0 : (a0_0 == 3) = true := beq_iff_eq.mpr c37
          have c37b1 : (a0_0 != 3) = false := bne_eq_false_iff_eq.mpr c37
          clear c37
          (first | rw [c37b0] | (simp only [i64_w, i32_w]; rw [c37b0]) | skip)
          have H' := aM H
          clear H
          go_wp2
          go_meet
          case rel => exact ⟨_, ((a0_0 == 3)), (by first | rfl | (simp; done) | (simp [*]; done)), H', ⟨by have := HJ1.out; have := HJ19.out; first | omega | exact Nat.le_refl _⟩, ⟨kX BK390.out⟩, ⟨bS HB.out⟩⟩
         ·rw [if_neg c37] at H
          have c37b0 : (a0_0 == 3) = false := beq_eq_false_iff_ne.mpr c37
          have c37b1 : (a0_0 != 3) = true := bne_iff_ne.mpr c37
          (first | rw [c37b0] | (simp only [i64_w, i32_w]; rw [c37b0]) | skip)
          by_cases c38 : a0_0 = 4
          rotate_left
          ·rw [if_neg c38] at H
           have c38b0 : (a0_0 == 4) = false := beq_eq_false_iff_ne.mpr c38
           have c38b1 : (a0_0 != 4) = true := bne_iff_ne.mpr c38
           have H' := aM H
           clear H
           go_wp2
           go_meet
           case rel => exact ⟨_, ((a0_0 == 23)), (by first | rfl | (simp; done) | (simp [*]; done)), H', ⟨by have := HJ1.out; have := HJ19.out; first | omega | exact Nat.le_refl _⟩, ⟨kX BK390.out⟩, ⟨bS HB.out⟩⟩
          rw [if_pos c38] at H
          have c38b0 : (a0_0 == 4) = true := beq_iff_eq.mpr c38
          have c38b1 : (a0_0 != 4) = false := bne_eq_false_iff_eq.mpr c38
          clear c38
          have H' := aM H
          clear H
          go_wp2
          go_meet
          case rel => exact ⟨_, ((a0_0 == 4)), (by first | rfl | (simp; done) | (simp [*]; done)), H', ⟨by have := HJ1.out; have := HJ19.out; first | omega | exact Nat.le_refl _⟩, ⟨kX BK390.out⟩, ⟨bS HB.out⟩⟩
        case rest =>
         clear HC36
         try clear c1
         try clear c2
         try clear p2
         try clear c4
         try clear c5
         try clear c7
         try clear c9
         try clear c15
         try clear c16
         try clear c16b0
         try clear c22
         try clear c22b0
         try clear c22b1
         try clear c23
         try clear c25
         try clear c27
         try clear hcz11_0
         try clear hcz11_1
         try clear hcz11_2
         try clear hcz11_3
         try clear hcz11_4
         try clear hcz11_5
         try clear hcz12_0
         try clear hcz12_1
         try clear hcz12_2
         try clear hcz12_3
         try clear hcz12_4
         try clear hcz12_5
         try clear hcz13_0
         try clear hcz13_1
         try clear hcz13_2
         try clear hcz13_3
         try clear hcz13_4
         try clear hcz13_5
         try clear hcz14_0
         try clear hcz14_1
         try clear hcz14_2
         try clear hcz14_3
         try clear hcz14_4
         try clear hcz14_5
         try clear hcz18_0
         try clear hcz18_1
         try clear hcz18_2
         try clear hcz18_3
         try clear hcz18_4
         try clear hcz18_5
         try clear hcz21_0
         try clear hcz21_1
         try clear hcz21_2
         try clear hcz21_3
         try clear hcz21_4
         try clear hcz21_5
         try clear hcz28_0
         try clear hcz28_1
         try clear hcz28_2
         try clear hcz28_3
         try clear hcz28_4
         try clear hcz28_5
         try clear hcz30_0
         try clear hcz30_1
         try clear hcz30_2
         try clear hcz30_3
         try clear hcz30_4
         try clear hcz30_5
         try clear hcz31_0
         try clear hcz31_1
         try clear hcz31_2
         try clear hcz31_3
         try clear hcz31_4
         try clear hcz31_5
         try clear hcz33_0
         try clear hcz33_1
         try clear hcz33_2
         try clear hcz33_3
         try clear hcz33_4
         try clear hcz33_5
         try clear hcz34_0
         try clear hcz34_1
         try clear hcz34_2
         try clear hcz34_3
         try clear hcz34_4
         try clear hcz34_5
         try clear hfz11_0
         try clear hfz11_1
         try clear hfz11_2
         try clear hfz11_3
         try clear hfz11_4
         try clear hfz11_5
         try clear hfz12_0
         try clear hfz12_1
         try clear hfz12_2
         try clear hfz12_3
         try clear hfz12_4
         try clear hfz12_5
         try clear hfz13_0
         try clear hfz13_1
         try clear hfz13_2
         try clear hfz13_3
         try clear hfz13_4
         try clear hfz13_5
         try clear hfz14_0
         try clear hfz14_1
         try clear hfz14_2
         try clear hfz14_3
         try clear hfz14_4
         try clear hfz14_5
         try clear hfz18_0
         try clear hfz18_1
         try clear hfz18_2
         try clear hfz18_3
         try clear hfz18_4
         try clear hfz18_5
         try clear hfz21_0
         try clear hfz21_1
         try clear hfz21_2
         try clear hfz21_3
         try clear hfz21_4
         try clear hfz21_5
         try clear hfz28_0
         try clear hfz28_1
         try clear hfz28_2
         try clear hfz28_3
         try clear hfz28_4
         try clear hfz28_5
         try clear hfz30_0
         try clear hfz30_1
         try clear hfz30_2
         try clear hfz30_3
         try clear hfz30_4
         try clear hfz30_5
         try clear hfz31_0
         try clear hfz31_1
         try clear hfz31_2
         try clear hfz31_3
         try clear hfz31_4
         try clear hfz31_5
         try clear hfz33_0
         try clear hfz33_1
         try clear hfz33_2
         try clear hfz33_3
         try clear hfz33_4
         try clear hfz33_5
         try clear hfz34_0
         try clear hfz34_1
         try clear hfz34_2
         try clear hfz34_3
         try clear hfz34_4
         try clear hfz34_5
         try clear p2
         obtain ⟨kq, x50_35, rfl, HA, HJ35, BK390, HB⟩ := hcut
         cases kq with
         | zero => exact absurd HA.out (by simp [spec_RespOk.j2])
         | succ kj35 =>
          have H := HA.out
          clear HA
          simp only [spec_RespOk.j2] at H
          by_cases c39 : x50_35 = true
          ·subst c39
           rw [if_pos rfl] at H
           (try dsimp only at H)
           replace H := Option.bind_eq_some_iff.mp H
           obtain ⟨t398, A400, H⟩ := H
           (try dsimp only at H)
           have A40 := aM A400
           clear A400
           by_cases c41 : t398 = true
           rotate_left
           ·replace c41 := Bool.eq_false_iff.mpr c41
            subst c41
            rw [if_neg (show ¬ (false = true) by decide)] at H
            (try dsimp only at H)
            obtain rfl := Option.some.inj H
            obtain ⟨hcz46_0, hfz46_0, hcz46_1, hfz46_1, hcz46_2, hfz46_2, hcz46_3, hfz46_3, hcz46_4, hfz46_4, hcz46_5, hfz46_5⟩ := bk6 BK390.out
            go_wp2_with (first | ((with_reducible refine gate_callee (f := 59) rfl ?_); refine gL (some 55) rfl rfl Try.func59 (by kernel_rfl) rfl #[.agg #[.int .i64 a0_0, .int .i64 a0_1, .int .i64 a0_2, .int .i64 a0_3, .slice A0_4 l0_4.length c0_4, .slice A0_5 l0_5.length c0_5], .bool false, .bool false, .bool true, .bool false] rfl ?_; (with_reducible refine (spec_l4Zero.calls a0_0 a0_1 a0_2 a0_3 _ _ l0_4 _ _ l0_5 false false true false false _ ?side1 ?side2 ?side3 ?side4 A40.out).mono ?_); (case side1 => exact cB HR0_4.out HB.out); (case side2 => exact HC0_4.out); (case side3 => exact cB HR0_5.out HB.out); (case side4 => exact HC0_5.out); rintro e w47 ⟨rfl, hb⟩; refine ⟨_, rfl, ?_⟩; have _ := aM (kB BK390.out hb); have _ := aM (below_step (bS HB.out) hb); clear BK390 HB; rename_i BK390 HB; (try clear hb)))
            go_ret
            exact ⟨by first | rfl | (simp [errW_none, errW_some] <;> rfl) | (simp [*, errW_none, errW_some] <;> rfl), bS HB.out⟩
           subst c41
           rw [if_pos rfl] at H
           (try dsimp only at H)
           replace H := Option.bind_eq_some_iff.mp H
           obtain ⟨t399, A420, H⟩ := H
           (try dsimp only at H)
           have A42 := aM A420
           clear A420
           obtain rfl := Option.some.inj H
           obtain ⟨hcz43_0, hfz43_0, hcz43_1, hfz43_1, hcz43_2, hfz43_2, hcz43_3, hfz43_3, hcz43_4, hfz43_4, hcz43_5, hfz43_5⟩ := bk6 BK390.out
           go_wp2_with (first | ((with_reducible refine gate_callee (f := 59) rfl ?_); refine gL (some 55) rfl rfl Try.func59 (by kernel_rfl) rfl #[.agg #[.int .i64 a0_0, .int .i64 a0_1, .int .i64 a0_2, .int .i64 a0_3, .slice A0_4 l0_4.length c0_4, .slice A0_5 l0_5.length c0_5], .bool false, .bool false, .bool true, .bool false] rfl ?_; (with_reducible refine (spec_l4Zero.calls a0_0 a0_1 a0_2 a0_3 _ _ l0_4 _ _ l0_5 false false true false true _ ?side1 ?side2 ?side3 ?side4 A40.out).mono ?_); (case side1 => exact cB HR0_4.out HB.out); (case side2 => exact HC0_4.out); (case side3 => exact cB HR0_5.out HB.out); (case side4 => exact HC0_5.out); rintro e w44 ⟨rfl, hb⟩; refine ⟨_, rfl, ?_⟩; have _ := aM (kB BK390.out hb); have _ := aM (below_step (bS HB.out) hb); clear BK390 HB; rename_i BK390 HB; (try clear hb); obtain ⟨hcz45_0, hfz45_0, hcz45_1, hfz45_1, hcz45_2, hfz45_2, hcz45_3, hfz45_3, hcz45_4, hfz45_4, hcz45_5, hfz45_5⟩ := bk6 BK390.out) | (go_at_call 57; (with_reducible refine (spec_l1In.calls (l0_4.length : Int) 1 125 t399 _ A42.out).mono ?_); rintro e w' ⟨rfl, ⟨nd, rfl⟩⟩))
           go_ret
           exact ⟨by first | rfl | (simp [errW_none, errW_some] <;> rfl) | (simp [*, errW_none, errW_some] <;> rfl), bS HB.out⟩
          ·replace c39 := Bool.eq_false_iff.mpr c39
           subst c39
           rw [if_neg (show ¬ (false = true) by decide)] at H
           (try dsimp only at H)
           by_cases c48 : a0_0 = 5
           ·rw [if_pos c48] at H
            have c48b0 : (a0_0 == 5) = true := beq_iff_eq.mpr c48
            have c48b1 : (a0_0 != 5) = false := bne_eq_false_iff_eq.mpr c48
            clear c48
            replace H := Option.bind_eq_some_iff.mp H
            obtain ⟨t400, A490, H⟩ := H
            (try dsimp only at H)
            have A49 := aM A490
            clear A490
            by_cases c50 : t400 = true
            rotate_left
            ·replace c50 := Bool.eq_false_iff.mpr c50
             subst c50
             rw [if_neg (show ¬ (false = true) by decide)] at H
             (try dsimp only at H)
             obtain rfl := Option.some.inj H
             obtain ⟨hcz54_0, hfz54_0, hcz54_1, hfz54_1, hcz54_2, hfz54_2, hcz54_3, hfz54_3, hcz54_4, hfz54_4, hcz54_5, hfz54_5⟩ := bk6 BK390.out
             go_wp2_with (first | ((with_reducible refine gate_callee (f := 59) rfl ?_); refine gL (some 65) rfl rfl Try.func59 (by kernel_rfl) rfl #[.agg #[.int .i64 a0_0, .int .i64 a0_1, .int .i64 a0_2, .int .i64 a0_3, .slice A0_4 l0_4.length c0_4, .slice A0_5 l0_5.length c0_5], .bool true, .bool false, .bool false, .bool true] rfl ?_; (with_reducible refine (spec_l4Zero.calls a0_0 a0_1 a0_2 a0_3 _ _ l0_4 _ _ l0_5 true false false true false _ ?side1 ?side2 ?side3 ?side4 A49.out).mono ?_); (case side1 => exact cB HR0_4.out HB.out); (case side2 => exact HC0_4.out); (case side3 => exact cB HR0_5.out HB.out); (case side4 => exact HC0_5.out); rintro e w55 ⟨rfl, hb⟩; refine ⟨_, rfl, ?_⟩; have _ := aM (kB BK390.out hb); have _ := aM (below_step (bS HB.out) hb); clear BK390 HB; rename_i BK390 HB; (try clear hb)))
             go_ret
             exact ⟨by first | rfl | (simp [errW_none, errW_some] <;> rfl) | (simp [*, errW_none, errW_some] <;> rfl), bS HB.out⟩
            subst c50
            rw [if_pos rfl] at H
            (try dsimp only at H)
            obtain rfl := Option.some.inj H
            obtain ⟨hcz51_0, hfz51_0, hcz51_1, hfz51_1, hcz51_2, hfz51_2, hcz51_3, hfz51_3, hcz51_4, hfz51_4, hcz51_5, hfz51_5⟩ := bk6 BK390.out
            go_wp2_with (first | ((with_reducible refine gate_callee (f := 59) rfl ?_); refine gL (some 65) rfl rfl Try.func59 (by kernel_rfl) rfl #[.agg #[.int .i64 a0_0, .int .i64 a0_1, .int .i64 a0_2, .int .i64 a0_3, .slice A0_4 l0_4.length c0_4, .slice A0_5 l0_5.length c0_5], .bool true, .bool false, .bool false, .bool true] rfl ?_; (with_reducible refine (spec_l4Zero.calls a0_0 a0_1 a0_2 a0_3 _ _ l0_4 _ _ l0_5 true false false true true _ ?side1 ?side2 ?side3 ?side4 A49.out).mono ?_); (case side1 => exact cB HR0_4.out HB.out); (case side2 => exact HC0_4.out); (case side3 => exact cB HR0_5.out HB.out); (case side4 => exact HC0_5.out); rintro e w52 ⟨rfl, hb⟩; refine ⟨_, rfl, ?_⟩; have _ := aM (kB BK390.out hb); have _ := aM (below_step (bS HB.out) hb); clear BK390 HB; rename_i BK390 HB; (try clear hb); obtain ⟨hcz53_0, hfz53_0, hcz53_1, hfz53_1, hcz53_2, hfz53_2, hcz53_3, hfz53_3, hcz53_4, hfz53_4, hcz53_5, hfz53_5⟩ := bk6 BK390.out))
            go_ret
            exact ⟨by first | rfl | (simp [errW_none, errW_some] <;> rfl) | (simp [*, errW_none, errW_some] <;> rfl), bS HB.out⟩
           ·rw [if_neg c48] at H
            have c48b0 : (a0_0 == 5) = false := beq_eq_false_iff_ne.mpr c48
            have c48b1 : (a0_0 != 5) = true := bne_iff_ne.mpr c48
            by_cases c56 : a0_0 = 6
            ·rw [if_pos c56] at H
             have c56b0 : (a0_0 == 6) = true := beq_iff_eq.mpr c56
             have c56b1 : (a0_0 != 6) = false := bne_eq_false_iff_eq.mpr c56
             clear c56
             replace H := Option.bind_eq_some_iff.mp H
             obtain ⟨t401, A570, H⟩ := H
             (try dsimp only at H)
             have A57 := aM A570
             clear A570
             by_cases c58 : t401 = true
             rotate_left
             ·replace c58 := Bool.eq_false_iff.mpr c58
              subst c58
              rw [if_neg (show ¬ (false = true) by decide)] at H
              (try dsimp only at H)
              obtain rfl := Option.some.inj H
              obtain ⟨hcz62_0, hfz62_0, hcz62_1, hfz62_1, hcz62_2, hfz62_2, hcz62_3, hfz62_3, hcz62_4, hfz62_4, hcz62_5, hfz62_5⟩ := bk6 BK390.out
              go_wp2_with (first | ((with_reducible refine gate_callee (f := 59) rfl ?_); refine gL (some 75) rfl rfl Try.func59 (by kernel_rfl) rfl #[.agg #[.int .i64 a0_0, .int .i64 a0_1, .int .i64 a0_2, .int .i64 a0_3, .slice A0_4 l0_4.length c0_4, .slice A0_5 l0_5.length c0_5], .bool true, .bool false, .bool true, .bool false] rfl ?_; (with_reducible refine (spec_l4Zero.calls a0_0 a0_1 a0_2 a0_3 _ _ l0_4 _ _ l0_5 true false true false false _ ?side1 ?side2 ?side3 ?side4 A57.out).mono ?_); (case side1 => exact cB HR0_4.out HB.out); (case side2 => exact HC0_4.out); (case side3 => exact cB HR0_5.out HB.out); (case side4 => exact HC0_5.out); rintro e w63 ⟨rfl, hb⟩; refine ⟨_, rfl, ?_⟩; have _ := aM (kB BK390.out hb); have _ := aM (below_step (bS HB.out) hb); clear BK390 HB; rename_i BK390 HB; (try clear hb)))
              go_ret
              exact ⟨by first | rfl | (simp [errW_none, errW_some] <;> rfl) | (simp [*, errW_none, errW_some] <;> rfl), bS HB.out⟩
             subst c58
             rw [if_pos rfl] at H
             (try dsimp only at H)
             obtain rfl := Option.some.inj H
             obtain ⟨hcz59_0, hfz59_0, hcz59_1, hfz59_1, hcz59_2, hfz59_2, hcz59_3, hfz59_3, hcz59_4, hfz59_4, hcz59_5, hfz59_5⟩ := bk6 BK390.out
             go_wp2_with (first | ((with_reducible refine gate_callee (f := 59) rfl ?_); refine gL (some 75) rfl rfl Try.func59 (by kernel_rfl) rfl #[.agg #[.int .i64 a0_0, .int .i64 a0_1, .int .i64 a0_2, .int .i64 a0_3, .slice A0_4 l0_4.length c0_4, .slice A0_5 l0_5.length c0_5], .bool true, .bool false, .bool true, .bool false] rfl ?_; (with_reducible refine (spec_l4Zero.calls a0_0 a0_1 a0_2 a0_3 _ _ l0_4 _ _ l0_5 true false true false true _ ?side1 ?side2 ?side3 ?side4 A57.out).mono ?_); (case side1 => exact cB HR0_4.out HB.out); (case side2 => exact HC0_4.out); (case side3 => exact cB HR0_5.out HB.out); (case side4 => exact HC0_5.out); rintro e w60 ⟨rfl, hb⟩; refine ⟨_, rfl, ?_⟩; have _ := aM (kB BK390.out hb); have _ := aM (below_step (bS HB.out) hb); clear BK390 HB; rename_i BK390 HB; (try clear hb); obtain ⟨hcz61_0, hfz61_0, hcz61_1, hfz61_1, hcz61_2, hfz61_2, hcz61_3, hfz61_3, hcz61_4, hfz61_4, hcz61_5, hfz61_5⟩ := bk6 BK390.out))
             go_ret
             exact ⟨by first | rfl | (simp [errW_none, errW_some] <;> rfl) | (simp [*, errW_none, errW_some] <;> rfl), bS HB.out⟩
            ·rw [if_neg c56] at H
             have c56b0 : (a0_0 == 6) = false := beq_eq_false_iff_ne.mpr c56
             have c56b1 : (a0_0 != 6) = true := bne_iff_ne.mpr c56
             by_cases c64 : a0_0 = 22
             ·rw [if_pos c64] at H
              have c64b0 : (a0_0 == 22) = true := beq_iff_eq.mpr c64
              have c64b1 : (a0_0 != 22) = false := bne_eq_false_iff_eq.mpr c64
              clear c64
              replace H := Option.bind_eq_some_iff.mp H
              obtain ⟨t402, A650, H⟩ := H
              (try dsimp only at H)
              have A65 := aM A650
              clear A650
              by_cases c66 : t402 = true
              rotate_left
              ·replace c66 := Bool.eq_false_iff.mpr c66
               subst c66
               rw [if_neg (show ¬ (false = true) by decide)] at H
               (try dsimp only at H)
               obtain rfl := Option.some.inj H
               obtain ⟨hcz70_0, hfz70_0, hcz70_1, hfz70_1, hcz70_2, hfz70_2, hcz70_3, hfz70_3, hcz70_4, hfz70_4, hcz70_5, hfz70_5⟩ := bk6 BK390.out
               go_wp2_with (first | ((with_reducible refine gate_callee (f := 59) rfl ?_); refine gL (some 85) rfl rfl Try.func59 (by kernel_rfl) rfl #[.agg #[.int .i64 a0_0, .int .i64 a0_1, .int .i64 a0_2, .int .i64 a0_3, .slice A0_4 l0_4.length c0_4, .slice A0_5 l0_5.length c0_5], .bool true, .bool false, .bool true, .bool false] rfl ?_; (with_reducible refine (spec_l4Zero.calls a0_0 a0_1 a0_2 a0_3 _ _ l0_4 _ _ l0_5 true false true false false _ ?side1 ?side2 ?side3 ?side4 A65.out).mono ?_); (case side1 => exact cB HR0_4.out HB.out); (case side2 => exact HC0_4.out); (case side3 => exact cB HR0_5.out HB.out); (case side4 => exact HC0_5.out); rintro e w71 ⟨rfl, hb⟩; refine ⟨_, rfl, ?_⟩; have _ := aM (kB BK390.out hb); have _ := aM (below_step (bS HB.out) hb); clear BK390 HB; rename_i BK390 HB; (try clear hb)))
               go_ret
               exact ⟨by first | rfl | (simp [errW_none, errW_some] <;> rfl) | (simp [*, errW_none, errW_some] <;> rfl), bS HB.out⟩
              subst c66
              rw [if_pos rfl] at H
              (try dsimp only at H)
              obtain rfl := Option.some.inj H
              obtain ⟨hcz67_0, hfz67_0, hcz67_1, hfz67_1, hcz67_2, hfz67_2, hcz67_3, hfz67_3, hcz67_4, hfz67_4, hcz67_5, hfz67_5⟩ := bk6 BK390.out
              go_wp2_with (first | ((with_reducible refine gate_callee (f := 59) rfl ?_); refine gL (some 85) rfl rfl Try.func59 (by kernel_rfl) rfl #[.agg #[.int .i64 a0_0, .int .i64 a0_1, .int .i64 a0_2, .int .i64 a0_3, .slice A0_4 l0_4.length c0_4, .slice A0_5 l0_5.length c0_5], .bool true, .bool false, .bool true, .bool false] rfl ?_; (with_reducible refine (spec_l4Zero.calls a0_0 a0_1 a0_2 a0_3 _ _ l0_4 _ _ l0_5 true false true false true _ ?side1 ?side2 ?side3 ?side4 A65.out).mono ?_); (case side1 => exact cB HR0_4.out HB.out); (case side2 => exact HC0_4.out); (case side3 => exact cB HR0_5.out HB.out); (case side4 => exact HC0_5.out); rintro e w68 ⟨rfl, hb⟩; refine ⟨_, rfl, ?_⟩; have _ := aM (kB BK390.out hb); have _ := aM (below_step (bS HB.out) hb); clear BK390 HB; rename_i BK390 HB; (try clear hb); obtain ⟨hcz69_0, hfz69_0, hcz69_1, hfz69_1, hcz69_2, hfz69_2, hcz69_3, hfz69_3, hcz69_4, hfz69_4, hcz69_5, hfz69_5⟩ := bk6 BK390.out))
              go_ret
              exact ⟨by first | rfl | (simp [errW_none, errW_some] <;> rfl) | (simp [*, errW_none, errW_some] <;> rfl), bS HB.out⟩
             ·rw [if_neg c64] at H
              have c64b0 : (a0_0 == 22) = false := beq_eq_false_iff_ne.mpr c64
              have c64b1 : (a0_0 != 22) = true := bne_iff_ne.mpr c64
              by_cases c72 : a0_0 = 15
              rotate_left
              ·rw [if_neg c72] at H
               have c72b0 : (a0_0 == 15) = false := beq_eq_false_iff_ne.mpr c72
               have c72b1 : (a0_0 != 15) = true := bne_iff_ne.mpr c72
               replace H := Option.bind_eq_some_iff.mp H
               obtain ⟨t405, A810, H⟩ := H
               (try dsimp only at H)
               have A81 := aM A810
               clear A810
               by_cases c82 : t405 = true
               rotate_left
               ·replace c82 := Bool.eq_false_iff.mpr c82
                subst c82
                rw [if_neg (show ¬ (false = true) by decide)] at H
                (try dsimp only at H)
                obtain rfl := Option.some.inj H
                obtain ⟨hcz87_0, hfz87_0, hcz87_1, hfz87_1, hcz87_2, hfz87_2, hcz87_3, hfz87_3, hcz87_4, hfz87_4, hcz87_5, hfz87_5⟩ := bk6 BK390.out
                go_wp2_with (first | ((with_reducible refine gate_callee (f := 59) rfl ?_); refine gL (some 102) rfl rfl Try.func59 (by kernel_rfl) rfl #[.agg #[.int .i64 a0_0, .int .i64 a0_1, .int .i64 a0_2, .int .i64 a0_3, .slice A0_4 l0_4.length c0_4, .slice A0_5 l0_5.length c0_5], .bool true, .bool true, .bool false, .bool false] rfl ?_; (with_reducible refine (spec_l4Zero.calls a0_0 a0_1 a0_2 a0_3 _ _ l0_4 _ _ l0_5 true true false false false _ ?side1 ?side2 ?side3 ?side4 A81.out).mono ?_); (case side1 => exact cB HR0_4.out HB.out); (case side2 => exact HC0_4.out); (case side3 => exact cB HR0_5.out HB.out); (case side4 => exact HC0_5.out); rintro e w88 ⟨rfl, hb⟩; refine ⟨_, rfl, ?_⟩; have _ := aM (kB BK390.out hb); have _ := aM (below_step (bS HB.out) hb); clear BK390 HB; rename_i BK390 HB; (try clear hb)))
                go_ret
                exact ⟨by first | rfl | (simp [errW_none, errW_some] <;> rfl) | (simp [*, errW_none, errW_some] <;> rfl), bS HB.out⟩

               subst c82
               rw [if_pos rfl] at H
               (try dsimp only at H)
               replace H := Option.bind_eq_some_iff.mp H
               obtain ⟨t406, A830, H⟩ := H
               (try dsimp only at H)
               have A83 := aM A830
               clear A830
               obtain rfl := Option.some.inj H
               obtain ⟨hcz84_0, hfz84_0, hcz84_1, hfz84_1, hcz84_2, hfz84_2, hcz84_3, hfz84_3, hcz84_4, hfz84_4, hcz84_5, hfz84_5⟩ := bk6 BK390.out
               go_wp2_with (first | ((with_reducible refine gate_callee (f := 59) rfl ?_); refine gL (some 102) rfl rfl Try.func59 (by kernel_rfl) rfl #[.agg #[.int .i64 a0_0, .int .i64 a0_1, .int .i64 a0_2, .int .i64 a0_3, .slice A0_4 l0_4.length c0_4, .slice A0_5 l0_5.length c0_5], .bool true, .bool true, .bool false, .bool false] rfl ?_; (with_reducible refine (spec_l4Zero.calls a0_0 a0_1 a0_2 a0_3 _ _ l0_4 _ _ l0_5 true true false false true _ ?side1 ?side2 ?side3 ?side4 A81.out).mono ?_); (case side1 => exact cB HR0_4.out HB.out); (case side2 => exact HC0_4.out); (case side3 => exact cB HR0_5.out HB.out); (case side4 => exact HC0_5.out); rintro e w85 ⟨rfl, hb⟩; refine ⟨_, rfl, ?_⟩; have _ := aM (kB BK390.out hb); have _ := aM (below_step (bS HB.out) hb); clear BK390 HB; rename_i BK390 HB; (try clear hb); obtain ⟨hcz86_0, hfz86_0, hcz86_1, hfz86_1, hcz86_2, hfz86_2, hcz86_3, hfz86_3, hcz86_4, hfz86_4, hcz86_5, hfz86_5⟩ := bk6 BK390.out) | (go_at_call 57; (with_reducible refine (spec_l1In.calls a0_3 1 123 t406 _ A83.out).mono ?_); rintro e w' ⟨rfl, ⟨nd, rfl⟩⟩))
               go_ret
               exact ⟨by first | rfl | (simp [errW_none, errW_some] <;> rfl) | (simp [*, errW_none, errW_some] <;> rfl), bS HB.out⟩
              rw [if_pos c72] at H
              have c72b0 : (a0_0 == 15) = true := beq_iff_eq.mpr c72
              have c72b1 : (a0_0 != 15) = false := bne_eq_false_iff_eq.mpr c72
              clear c72
              replace H := Option.bind_eq_some_iff.mp H
              obtain ⟨t403, A730, H⟩ := H
              (try dsimp only at H)
              have A73 := aM A730
              clear A730
              by_cases c74 : t403 = true
              rotate_left
              ·replace c74 := Bool.eq_false_iff.mpr c74
               subst c74
               rw [if_neg (show ¬ (false = true) by decide)] at H
               (try dsimp only at H)
               obtain rfl := Option.some.inj H
               obtain ⟨hcz79_0, hfz79_0, hcz79_1, hfz79_1, hcz79_2, hfz79_2, hcz79_3, hfz79_3, hcz79_4, hfz79_4, hcz79_5, hfz79_5⟩ := bk6 BK390.out
               go_wp2_with (first | ((with_reducible refine gate_callee (f := 59) rfl ?_); refine gL (some 95) rfl rfl Try.func59 (by kernel_rfl) rfl #[.agg #[.int .i64 a0_0, .int .i64 a0_1, .int .i64 a0_2, .int .i64 a0_3, .slice A0_4 l0_4.length c0_4, .slice A0_5 l0_5.length c0_5], .bool true, .bool true, .bool false, .bool false] rfl ?_; (with_reducible refine (spec_l4Zero.calls a0_0 a0_1 a0_2 a0_3 _ _ l0_4 _ _ l0_5 true true false false false _ ?side1 ?side2 ?side3 ?side4 A73.out).mono ?_); (case side1 => exact cB HR0_4.out HB.out); (case side2 => exact HC0_4.out); (case side3 => exact cB HR0_5.out HB.out); (case side4 => exact HC0_5.out); rintro e w80 ⟨rfl, hb⟩; refine ⟨_, rfl, ?_⟩; have _ := aM (kB BK390.out hb); have _ := aM (below_step (bS HB.out) hb); clear BK390 HB; rename_i BK390 HB; (try clear hb)))
               go_ret
               exact ⟨by first | rfl | (simp [errW_none, errW_some] <;> rfl) | (simp [*, errW_none, errW_some] <;> rfl), bS HB.out⟩
              subst c74
              rw [if_pos rfl] at H
              (try dsimp only at H)
              replace H := Option.bind_eq_some_iff.mp H
              obtain ⟨t404, A750, H⟩ := H
              (try dsimp only at H)
              have A75 := aM A750
              clear A750
              obtain rfl := Option.some.inj H
              obtain ⟨hcz76_0, hfz76_0, hcz76_1, hfz76_1, hcz76_2, hfz76_2, hcz76_3, hfz76_3, hcz76_4, hfz76_4, hcz76_5, hfz76_5⟩ := bk6 BK390.out
              go_wp2_with (first | ((with_reducible refine gate_callee (f := 59) rfl ?_); refine gL (some 95) rfl rfl Try.func59 (by kernel_rfl) rfl #[.agg #[.int .i64 a0_0, .int .i64 a0_1, .int .i64 a0_2, .int .i64 a0_3, .slice A0_4 l0_4.length c0_4, .slice A0_5 l0_5.length c0_5], .bool true, .bool true, .bool false, .bool false] rfl ?_; (with_reducible refine (spec_l4Zero.calls a0_0 a0_1 a0_2 a0_3 _ _ l0_4 _ _ l0_5 true true false false true _ ?side1 ?side2 ?side3 ?side4 A73.out).mono ?_); (case side1 => exact cB HR0_4.out HB.out); (case side2 => exact HC0_4.out); (case side3 => exact cB HR0_5.out HB.out); (case side4 => exact HC0_5.out); rintro e w77 ⟨rfl, hb⟩; refine ⟨_, rfl, ?_⟩; have _ := aM (kB BK390.out hb); have _ := aM (below_step (bS HB.out) hb); clear BK390 HB; rename_i BK390 HB; (try clear hb); obtain ⟨hcz78_0, hfz78_0, hcz78_1, hfz78_1, hcz78_2, hfz78_2, hcz78_3, hfz78_3, hcz78_4, hfz78_4, hcz78_5, hfz78_5⟩ := bk6 BK390.out) | (go_at_call 57; (with_reducible refine (spec_l1In.calls a0_3 1 1968 t404 _ A75.out).mono ?_); rintro e w' ⟨rfl, ⟨nd, rfl⟩⟩))
              go_ret
              exact ⟨by first | rfl | (simp [errW_none, errW_some] <;> rfl) | (simp [*, errW_none, errW_some] <;> rfl), bS HB.out⟩
end Go.Proofs.Ytfiplepbmennbaa.PFnTold
