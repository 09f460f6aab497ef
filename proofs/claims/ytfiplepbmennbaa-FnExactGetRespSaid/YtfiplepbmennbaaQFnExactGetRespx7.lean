/- Functions and contracts of the law FnExactGetResp: what the Go text computes, step by step. -/
import Derived.Test.YtfiplepbmennbaaL
import Derived.Test.YtfiplepbmennbaaQFnExactGetRespx0
import Derived.Test.YtfiplepbmennbaaQFnExactGetRespx2
import Derived.Test.YtfiplepbmennbaaQFnExactGetRespx3
import Derived.Test.YtfiplepbmennbaaQFnExactGetRespx5
import Derived.Test.YtfiplepbmennbaaQFnExactGetRespx6
namespace Go.Proofs.Ytfiplepbmennbaa.PFnExactGetResp
open Go.Proofs.Ytfiplepbmennbaa.K Go.Proofs.Ytfiplepbmennbaa.G Go.RowKit Go.Proofs.YtfiplepbmennbaaW.PrintWords Go.Proofs.YtfiplepbmennbaaW.PrintLast Go.Proofs.YtfiplepbmennbaaW.PrintMore
attribute [local go_sem] max2_int min2_int max_two min_two max_three min_three max_four min_four   -- for this text's walks alone
set_option linter.unusedVariables false
set_option linter.unusedSimpArgs false

/-! ### spec_GetResp: function 16 -/
mutual
def spec_GetResp.j0 : Nat → List Int → Bool → Option (Int × Int × Int × Int × List Int × List Bool × Int)
 | 0, _, _ => none
 | k + 1, x0, x18 => if x18 = true then (some (0, 0, 0, 0, ([] : List Int), ([] : List Bool), 1)) else (if 0 < (x0.length : Int) then (if (rd x0 0) > 127 then (if (x0.length : Int) > 1 then (if 1 < (x0.length : Int) then (spec_GetResp.j2 k x0 (wrap64 (Go.bits .and .u8 (rd x0 0) 127)) (wrap64 (rd x0 1)) 0 0 ([] : List Int) ([] : List Bool)) else (none)) else (spec_GetResp.j2 k x0 (wrap64 (Go.bits .and .u8 (rd x0 0) 127)) 0 0 0 ([] : List Int) ([] : List Bool))) else (if (wrap64 (Go.bits .and .u8 (rd x0 0) 127)) < 3 then (if (x0.length : Int) > 2 then (if 2 ≤ (x0.length : Int) then ((spec_UnpackBits.f k (x0.drop 2) (wrap64 (8 * (wrap64 ((x0.length : Int) - 2))))).bind fun bt250 => (spec_GetResp.j2 k x0 (wrap64 (Go.bits .and .u8 (rd x0 0) 127)) 0 0 0 ([] : List Int) bt250.1)) else (none)) else (spec_GetResp.j2 k x0 (wrap64 (Go.bits .and .u8 (rd x0 0) 127)) 0 0 0 ([] : List Int) ([] : List Bool))) else (if (wrap64 (Go.bits .and .u8 (rd x0 0) 127)) < 5 then (spec_GetResp.j1 k x0 true (wrap64 (Go.bits .and .u8 (rd x0 0) 127)) 0 0 0) else (spec_GetResp.j1 k x0 ((wrap64 (Go.bits .and .u8 (rd x0 0) 127)) == 23) (wrap64 (Go.bits .and .u8 (rd x0 0) 127)) 0 0 0)))) else (none))
def spec_GetResp.j2 : Nat → List Int → Int → Int → Int → Int → List Int → List Bool → Option (Int × Int × Int × Int × List Int × List Bool × Int)
 | 0, _, _, _, _, _, _, _ => none
 | k + 1, x0, x247000, x247001, x247002, x247003, x247004, x247005 => (spec_RespOk.f k x247000 x247001 x247002 x247003 x247004 x247005).bind fun t270 => (if t270 = true then ((spec_PutResp.f k x247000 x247001 x247002 x247003 x247004 x247005).bind fun t271 => ((spec_l3Same.f k t271 x0).bind fun t274 => (if t274 = true then (some (x247000, x247001, x247002, x247003, x247004, x247005, 0)) else (some (0, 0, 0, 0, ([] : List Int), ([] : List Bool), 3))))) else (some (0, 0, 0, 0, ([] : List Int), ([] : List Bool), 3)))
def spec_GetResp.j1 : Nat → List Int → Bool → Int → Int → Int → Int → Option (Int × Int × Int × Int × List Int × List Bool × Int)
 | 0, _, _, _, _, _, _ => none
 | k + 1, x0, x84, x247000, x247001, x247002, x247003 => if x84 = true then ((spec_l3GetWords.f k x0 2).bind fun t254 => (spec_GetResp.j2 k x0 x247000 x247001 x247002 x247003 t254 ([] : List Bool))) else ((spec_WordAt.f x0 1).bind fun bt257 => ((spec_WordAt.f x0 3).bind fun bt259 => (if x247000 = 5 then (spec_GetResp.j2 k x0 x247000 x247001 bt257.1 x247003 ([] : List Int) (([(bt259.1 != 0)] : List Bool))) else (if x247000 = 6 then ((spec_l3GetWords.f k x0 3).bind fun t264 => (spec_GetResp.j2 k x0 x247000 x247001 bt257.1 x247003 t264 ([] : List Bool))) else (if x247000 = 22 then ((spec_l3GetWords.f k x0 3).bind fun t267 => (spec_GetResp.j2 k x0 x247000 x247001 bt257.1 x247003 t267 ([] : List Bool))) else (spec_GetResp.j2 k x0 x247000 x247001 bt257.1 bt259.1 ([] : List Int) ([] : List Bool)))))))
end
def spec_GetResp.f (k : Nat) (l0 : List Int) : Option (Int × Int × Int × Int × List Int × List Bool × Int) := if (l0.length : Int) = 0 then (spec_GetResp.j0 k l0 true) else (if 0 < (l0.length : Int) then ((spec_l3Kind.f (wrap64 (Go.bits .and .u8 (rd l0 0) 127))).bind fun t244 => (spec_GetResp.j0 k l0 (!t244))) else (none))
theorem spec_GetResp.mono_l : ∀ k, (∀ y0 y1, LeO (spec_GetResp.j0 k y0 y1) (spec_GetResp.j0 (k + 1) y0 y1)) ∧ (∀ y0 y1 y2 y3 y4 y5 y6, LeO (spec_GetResp.j2 k y0 y1 y2 y3 y4 y5 y6) (spec_GetResp.j2 (k + 1) y0 y1 y2 y3 y4 y5 y6)) ∧ (∀ y0 y1 y2 y3 y4 y5, LeO (spec_GetResp.j1 k y0 y1 y2 y3 y4 y5) (spec_GetResp.j1 (k + 1) y0 y1 y2 y3 y4 y5))
 | 0 => ⟨fun _ _ r h => by simp [spec_GetResp.j0] at h, fun _ _ _ _ _ _ _ r h => by simp [spec_GetResp.j2] at h, fun _ _ _ _ _ _ r h => by simp [spec_GetResp.j1] at h⟩
 | k + 1 => by
  obtain ⟨ih0, ih1, ih2⟩ := spec_GetResp.mono_l k
  refine ⟨?_, ?_, ?_⟩
  ·intro y0 y1
   unfold spec_GetResp.j0
   repeat' first
   | (with_reducible exact ih0 _ _)
   | (with_reducible exact ih1 _ _ _ _ _ _ _)
   | (with_reducible exact ih2 _ _ _ _ _ _)
   | (with_reducible exact spec_PutResp.mono _ _ _ _ _ _ _)
   | (with_reducible exact spec_RespOk.mono _ _ _ _ _ _ _)
   | (with_reducible exact spec_UnpackBits.mono _ _ _)
   | (with_reducible exact spec_l3GetWords.mono _ _ _)
   | (with_reducible exact spec_l3Same.mono _ _ _)
   | (with_reducible exact LeO.refl _)
   | (with_reducible exact LeO.none _)
   | (with_reducible refine LeO.ite ?_ ?_)
   | (with_reducible refine LeO.bind ?_ (fun _ => ?_))
   | exact ih0 _ _
   | exact ih1 _ _ _ _ _ _ _
   | exact ih2 _ _ _ _ _ _
   | exact spec_PutResp.mono _ _ _ _ _ _ _
   | exact spec_RespOk.mono _ _ _ _ _ _ _
   | exact spec_UnpackBits.mono _ _ _
   | exact spec_l3GetWords.mono _ _ _
   | exact spec_l3Same.mono _ _ _
   | exact LeO.none _
   | refine LeO.ite ?_ ?_
   | refine LeO.bind ?_ (fun _ => ?_)
  ·intro y0 y1 y2 y3 y4 y5 y6
   unfold spec_GetResp.j2
   repeat' first
   | (with_reducible exact ih0 _ _)
   | (with_reducible exact ih1 _ _ _ _ _ _ _)
   | (with_reducible exact ih2 _ _ _ _ _ _)
   | (with_reducible exact spec_PutResp.mono _ _ _ _ _ _ _)
   | (with_reducible exact spec_RespOk.mono _ _ _ _ _ _ _)
   | (with_reducible exact spec_UnpackBits.mono _ _ _)
   | (with_reducible exact spec_l3GetWords.mono _ _ _)
   | (with_reducible exact spec_l3Same.mono _ _ _)
   | (with_reducible exact LeO.refl _)
   | (with_reducible exact LeO.none _)
   | (with_reducible refine LeO.ite ?_ ?_)
   | (with_reducible refine LeO.bind ?_ (fun _ => ?_))
   | exact ih0 _ _
   | exact ih1 _ _ _ _ _ _ _
   | exact ih2 _ _ _ _ _ _
   | exact spec_PutResp.mono _ _ _ _ _ _ _
   | exact spec_RespOk.mono _ _ _ _ _ _ _
   | exact spec_UnpackBits.mono _ _ _
   | exact spec_l3GetWords.mono _ _ _
   | exact spec_l3Same.mono _ _ _
   | exact LeO.none _
   | refine LeO.ite ?_ ?_
   | refine LeO.bind ?_ (fun _ => ?_)
  ·intro y0 y1 y2 y3 y4 y5
   unfold spec_GetResp.j1
   repeat' first
   | (with_reducible exact ih0 _ _)
   | (with_reducible exact ih1 _ _ _ _ _ _ _)
   | (with_reducible exact ih2 _ _ _ _ _ _)
   | (with_reducible exact spec_PutResp.mono _ _ _ _ _ _ _)
   | (with_reducible exact spec_RespOk.mono _ _ _ _ _ _ _)
   | (with_reducible exact spec_UnpackBits.mono _ _ _)
   | (with_reducible exact spec_l3GetWords.mono _ _ _)
   | (with_reducible exact spec_l3Same.mono _ _ _)
   | (with_reducible exact LeO.refl _)
   | (with_reducible exact LeO.none _)
   | (with_reducible refine LeO.ite ?_ ?_)
   | (with_reducible refine LeO.bind ?_ (fun _ => ?_))
   | exact ih0 _ _
   | exact ih1 _ _ _ _ _ _ _
   | exact ih2 _ _ _ _ _ _
   | exact spec_PutResp.mono _ _ _ _ _ _ _
   | exact spec_RespOk.mono _ _ _ _ _ _ _
   | exact spec_UnpackBits.mono _ _ _
   | exact spec_l3GetWords.mono _ _ _
   | exact spec_l3Same.mono _ _ _
   | exact LeO.none _
   | refine LeO.ite ?_ ?_
   | refine LeO.bind ?_ (fun _ => ?_)
theorem spec_GetResp.mono : ∀ a0 k, LeO (spec_GetResp.f k a0) (spec_GetResp.f (k + 1) a0) := by
 intro a0 k
 obtain ⟨ih0, ih1, ih2⟩ := spec_GetResp.mono_l k
 unfold spec_GetResp.f
 repeat' first
   | (with_reducible exact ih0 _ _)
   | (with_reducible exact ih1 _ _ _ _ _ _ _)
   | (with_reducible exact ih2 _ _ _ _ _ _)
   | (with_reducible exact spec_PutResp.mono _ _ _ _ _ _ _)
   | (with_reducible exact spec_RespOk.mono _ _ _ _ _ _ _)
   | (with_reducible exact spec_UnpackBits.mono _ _ _)
   | (with_reducible exact spec_l3GetWords.mono _ _ _)
   | (with_reducible exact spec_l3Same.mono _ _ _)
   | (with_reducible exact LeO.refl _)
   | (with_reducible exact LeO.none _)
   | (with_reducible refine LeO.ite ?_ ?_)
   | (with_reducible refine LeO.bind ?_ (fun _ => ?_))
   | exact ih0 _ _
   | exact ih1 _ _ _ _ _ _ _
   | exact ih2 _ _ _ _ _ _
   | exact spec_PutResp.mono _ _ _ _ _ _ _
   | exact spec_RespOk.mono _ _ _ _ _ _ _
   | exact spec_UnpackBits.mono _ _ _
   | exact spec_l3GetWords.mono _ _ _
   | exact spec_l3Same.mono _ _ _
   | exact LeO.none _
   | refine LeO.ite ?_ ?_
   | refine LeO.bind ?_ (fun _ => ?_)
set_option maxHeartbeats 8000000 in
set_option maxRecDepth 100000 in
theorem spec_GetResp.calls (k : Nat) (A0 : Option Addr) (c0 : Nat) (l0 : List Int) (r1 : Int) (r2 : Int) (r3 : Int) (r4 : Int) (r5 : List Int) (r6 : List Bool) (r7 : Int) (w : World) (hr0 : Kd.C (Kd.int .u8) w A0 l0.length l0) (hc0 : l0.length ≤ c0) (h : spec_GetResp.f k l0 = some (r1, r2, r3, r4, r5, r6, r7)) :
  Calls Try.prog 16 #[.slice A0 l0.length c0] w fun e w' => ∃ v4_ v5_ : Value, e = .returned (.tuple #[.agg #[.int .i64 r1, .int .i64 r2, .int .i64 r3, .int .i64 r4, v4_, v5_], .int .i64 r7]) ∧ Kd.R (Kd.int .i64) 3 w' w.heap.size (fun _ => True) v4_ r5 ∧ Kd.R Kd.bool 4 w' w.heap.size (fun _ => True) v5_ r6 ∧ Below w.heap.size w w' := by
 have hu29 := Try.underlying29
 have HR0 := aM hr0
 have HC0 := aM hc0
 clear hr0 hc0
 have HB := aM (Below.refl w.heap.size w)
 have H : (if (l0.length : Int) = 0 then (spec_GetResp.j0 k l0 true) else (if 0 < (l0.length : Int) then ((spec_l3Kind.f (wrap64 (Go.bits .and .u8 (rd l0 0) 127))).bind fun t244 => (spec_GetResp.j0 k l0 (!t244))) else (none))) = some (r1, r2, r3, r4, r5, r6, r7) := h
 clear h
 have HC2 := aM H
 clear H
 go_enter Try.func16, Try.ntmps16
 go_upto_region 1 with (first | ((with_reducible refine gate_dst (N := 2) rfl ?_); refine box_event ?hg (N := 2) ?hd (cs := #[.int .i64 0, .int .i64 0, .int .i64 0, .int .i64 0, .slice none 0 0, .slice none 0 0]) (t := 29) ?hr ?_; (case hd => rfl); (case hg => rfl); (case hr => first | (go_simp; done) | (go_simp; rfl)); intro gb242 hg w3 hbox hb; have _ := aM (below_step (bS HB.out) hb); have _ := aM (hbox); have _ := aM (leG hg (bS HB.out)); have _ := aM (leG hg (bS HB.out)); clear HB; rename_i HB BK242 GW242 GE242; clear hb hbox hg))
 (try simp only [Act.put, List.setIfInBounds_toArray, List.set_cons_zero, List.set_cons_succ])
 go_cut [18] (fun v18 wc => ∃ (kq : Nat) (x18_1 : Bool), v18 = .bool x18_1 ∧ Aside0 (spec_GetResp.j0 kq l0 x18_1 = some (r1, r2, r3, r4, r5, r6, r7)) ∧ Aside0 (kq ≤ k) ∧ Aside0 (wc.heap[gb242]? = some (.cells #[.int .i64 0, .int .i64 0, .int .i64 0, .int .i64 0, (.slice none 0 0), (.slice none 0 0)] 29 (0, 0))) ∧ Aside0 (Below w.heap.size w wc))
 case first =>
  have H := HC2.out
  clear HC2
  by_cases c4 : (l0.length : Int) = 0
  ·rw [if_pos c4] at H
   have c4b0 : ((l0.length : Int) == 0) = true := beq_iff_eq.mpr c4
   have c4b1 : ((l0.length : Int) != 0) = false := bne_eq_false_iff_eq.mpr c4
   clear c4
   (first | rw [c4b0] | (simp only [i64_w, i32_w]; rw [c4b0]) | skip)
   have H' := aM H
   clear H
   go_wp2
   go_meet
   case rel => exact ⟨_, (true), (by first | rfl | (simp; done) | (simp [*]; done)), H', ⟨by first | omega | exact Nat.le_refl _⟩, ⟨kX BK242.out⟩, ⟨bS HB.out⟩⟩
  ·rw [if_neg c4] at H
   have c4b0 : ((l0.length : Int) == 0) = false := beq_eq_false_iff_ne.mpr c4
   have c4b1 : ((l0.length : Int) != 0) = true := bne_iff_ne.mpr c4
   have c4b2 : ¬ (l0 = []) := fun h_ => c4 (by rw [h_]; rfl)
   (first | rw [c4b0] | (simp only [i64_w, i32_w]; rw [c4b0]) | skip)
   by_cases c5 : 0 < (l0.length : Int)
   ·rw [if_pos c5] at H
    have c5b0 : decide (0 < (l0.length : Int)) = true := decide_eq_true c5
    have c5b1 : decide (0 < l0.length) = true := decide_eq_true (by omega)
    clear c5
    replace H := Option.bind_eq_some_iff.mp H
    obtain ⟨t244, A60, H⟩ := H
    replace H : (spec_GetResp.j0 k l0 (!t244)) = some (r1, r2, r3, r4, r5, r6, r7) := H
    have A6 := aM A60
    clear A60
    have H' := aM H
    clear H
    have p243 : 0 ≤ (0 : Int) := (by omega)
    have q243 : 0 < (l0.length : Int) := of_decide_eq_true (by first | (with_reducible assumption) | assumption)
    obtain ⟨ad243, e243, hx243_0⟩ := Kd.at_int HR0.out 0 p243 q243
    cases e243
    have qi243 : (0 < l0.length) = True := eq_true (by omega)
    (try rw [show ((0 : Int)).toNat = 0 from rfl] at hx243_0)
    (try rw [Addr.add_zero'] at hx243_0)
    replace hx243_0 := (HB.out.cell (World.block_lt_of_cell? w _ hx243_0)).trans hx243_0
    replace p243 := eq_true p243
    replace q243 := eq_true q243
    go_wp2_with (first | (go_at_call 45; (with_reducible refine (spec_l3Kind.calls (wrap64 (Go.bits .and .u8 (rd l0 0) 127)) t244 _ A6.out).mono ?_); rintro e w' ⟨rfl, ⟨nd, rfl⟩⟩))
    go_meet
    case rel => exact ⟨_, (!t244), (by first | rfl | (simp; done) | (simp [*]; done)), H', ⟨by first | omega | exact Nat.le_refl _⟩, ⟨kX BK242.out⟩, ⟨bS HB.out⟩⟩
   ·rw [if_neg c5] at H
    exact absurd H (by simp)
 case rest =>
  clear HC2
  obtain ⟨kq, x18_1, rfl, HA, HJ1, BK242, HB⟩ := hcut
  cases kq with
  | zero => exact absurd HA.out (by simp [spec_GetResp.j0])
  | succ kj1 =>
   have H := HA.out
   clear HA
   simp only [spec_GetResp.j0] at H
   by_cases c7 : x18_1 = true
   ·subst c7
    have H1 : (some (0, 0, 0, 0, ([] : List Int), ([] : List Bool), 1)) = some (r1, r2, r3, r4, r5, r6, r7) := by rw [if_pos rfl] at H; exact H
    clear H
    have H := H1
    clear H1
    simp only [Option.some.injEq, Prod.mk.injEq] at H
    obtain ⟨rfl, rfl, rfl, rfl, rfl, rfl, rfl⟩ := H
    obtain ⟨hcz8_0, hfz8_0, hcz8_1, hfz8_1, hcz8_2, hfz8_2, hcz8_3, hfz8_3, hcz8_4, hfz8_4, hcz8_5, hfz8_5⟩ := bk6 BK242.out
    go_wp2
    refine bodyPost_ret (results_ct rfl _ _ gb242 29 #[.int .i64 0, .int .i64 0, .int .i64 0, .int .i64 0, .slice none 0 0, .slice none 0 0] (0, 0) _ rfl (kP6 BK242.out) Try.underlying29 rfl (by kernel_rfl)) rfl ?_
    exact ⟨_, _, by first | rfl | (simp [errW_none, errW_some] <;> rfl) | (simp [*, errW_none, errW_some] <;> rfl), by first | exact Kd.R_nil _ _ _ _ _ | exact Kd.N_nil _ _ _ _ _ | exact Kd.V_nil _ _ _ _ _ | exact Kd.Q_nil _ _ _ _ _ | exact Kd.S_nil _ _ _ _ _, by first | exact Kd.R_nil _ _ _ _ _ | exact Kd.N_nil _ _ _ _ _ | exact Kd.V_nil _ _ _ _ _ | exact Kd.Q_nil _ _ _ _ _ | exact Kd.S_nil _ _ _ _ _, bS HB.out⟩
   ·replace c7 := Bool.eq_false_iff.mpr c7
    subst c7
    have H1 : (if 0 < (l0.length : Int) then (if (rd l0 0) > 127 then (if (l0.length : Int) > 1 then (if 1 < (l0.length : Int) then (spec_GetResp.j2 kj1 l0 (wrap64 (Go.bits .and .u8 (rd l0 0) 127)) (wrap64 (rd l0 1)) 0 0 ([] : List Int) ([] : List Bool)) else (none)) else (spec_GetResp.j2 kj1 l0 (wrap64 (Go.bits .and .u8 (rd l0 0) 127)) 0 0 0 ([] : List Int) ([] : List Bool))) else (if (wrap64 (Go.bits .and .u8 (rd l0 0) 127)) < 3 then (if (l0.length : Int) > 2 then (if 2 ≤ (l0.length : Int) then ((spec_UnpackBits.f kj1 (l0.drop 2) (wrap64 (8 * (wrap64 ((l0.length : Int) - 2))))).bind fun bt250 => (spec_GetResp.j2 kj1 l0 (wrap64 (Go.bits .and .u8 (rd l0 0) 127)) 0 0 0 ([] : List Int) bt250.1)) else (none)) else (spec_GetResp.j2 kj1 l0 (wrap64 (Go.bits .and .u8 (rd l0 0) 127)) 0 0 0 ([] : List Int) ([] : List Bool))) else (if (wrap64 (Go.bits .and .u8 (rd l0 0) 127)) < 5 then (spec_GetResp.j1 kj1 l0 true (wrap64 (Go.bits .and .u8 (rd l0 0) 127)) 0 0 0) else (spec_GetResp.j1 kj1 l0 ((wrap64 (Go.bits .and .u8 (rd l0 0) 127)) == 23) (wrap64 (Go.bits .and .u8 (rd l0 0) 127)) 0 0 0)))) else (none)) = some (r1, r2, r3, r4, r5, r6, r7) := by rw [if_neg (show ¬ (false = true) by decide)] at H; exact H
    clear H
    have H := H1
    clear H1
    by_cases c9 : 0 < (l0.length : Int)
    ·rw [if_pos c9] at H
     have c9b0 : decide (0 < (l0.length : Int)) = true := decide_eq_true c9
     have c9b1 : decide (0 < l0.length) = true := decide_eq_true (by omega)
     clear c9
     have HC10 := aM H
     clear H
     have p245 : 0 ≤ (0 : Int) := (by omega)
     have q245 : 0 < (l0.length : Int) := of_decide_eq_true (by first | (with_reducible assumption) | assumption)
     obtain ⟨ad245, e245, hx245_0⟩ := Kd.at_int HR0.out 0 p245 q245
     cases e245
     have qi245 : (0 < l0.length) = True := eq_true (by omega)
     (try rw [show ((0 : Int)).toNat = 0 from rfl] at hx245_0)
     (try rw [Addr.add_zero'] at hx245_0)
     replace hx245_0 := (HB.out.cell (World.block_lt_of_cell? w _ hx245_0)).trans hx245_0
     replace p245 := eq_true p245
     replace q245 := eq_true q245
     go_upto_block 0 with (first | ((with_reducible refine gate_dst (N := 4) rfl ?_); refine box_event ?hg (N := 4) ?hd (cs := #[.int .i64 0, .int .i64 0, .int .i64 0, .int .i64 0, .slice none 0 0, .slice none 0 0]) (t := 29) ?hr ?_; (case hd => rfl); (case hg => rfl); (case hr => first | (go_simp; done) | (go_simp; rfl)); intro gb246 hg w11 hbox hb; have _ := aM (kB BK242.out hb); have _ := aM (below_step (bS HB.out) hb); have _ := aM (hbox); have _ := aM (leG hg (bS HB.out)); have _ := aM (leG hg (bS HB.out)); have _ := aM (neL hg (kA BK242.out)); have _ := aM (neG hg (kA BK242.out)); clear BK242 HB; rename_i BK242 HB BK246 GW246 GE246 NB242_246 NB246_242; clear hb hbox hg; have hnb12 := NB246_242.out; have hnc12 := NB242_246.out; obtain ⟨hcz13_0, hfz13_0, hcz13_1, hfz13_1, hcz13_2, hfz13_2, hcz13_3, hfz13_3, hcz13_4, hfz13_4, hcz13_5, hfz13_5⟩ := bk6 BK246.out))
     (try simp only [Act.put, List.setIfInBounds_toArray, List.set_cons_zero, List.set_cons_succ])
     go_cut [] (fun wc => ∃ (kq : Nat) (x247001_9 : Int) (x247002_9 : Int) (x247003_9 : Int) (x247004_9 : List Int) (x247005_9 : List Bool) (u247004 : Value) (u247005 : Value), Aside0 (spec_GetResp.j2 kq l0 (wrap64 (Go.bits .and .u8 (rd l0 0) 127)) x247001_9 x247002_9 x247003_9 x247004_9 x247005_9 = some (r1, r2, r3, r4, r5, r6, r7)) ∧ Aside0 (kq ≤ kj1) ∧ Aside0 (Kd.R (Kd.int .i64) 3 wc w.heap.size (fun _ => True) u247004 x247004_9) ∧ Aside0 (Kd.R Kd.bool 4 wc w.heap.size (fun _ => True) u247005 x247005_9) ∧ Aside0 (wc.heap[gb242]? = some (.cells #[.int .i64 0, .int .i64 0, .int .i64 0, .int .i64 0, (.slice none 0 0), (.slice none 0 0)] 29 (0, 0))) ∧ Aside0 (wc.heap[gb246]? = some (.cells #[.int .i64 (wrap64 (Go.bits .and .u8 (rd l0 0) 127)), .int .i64 x247001_9, .int .i64 x247002_9, .int .i64 x247003_9, u247004, u247005] 29 (0, 0))) ∧ Aside0 (Below w.heap.size w wc))
     case first =>
      have H := HC10.out
      clear HC10
      by_cases c14 : (rd l0 0) > 127
      ·rw [if_pos c14] at H
       have c14b0 : decide (127 < (rd l0 0)) = true := decide_eq_true c14
       clear c14
       (first | rw [c14b0] | (simp only [i64_w, i32_w]; rw [c14b0]) | skip)
       by_cases c15 : (l0.length : Int) > 1
       ·rw [if_pos c15] at H
        have c15b0 : decide (1 < (l0.length : Int)) = true := decide_eq_true c15
        have c15b1 : decide (1 < l0.length) = true := decide_eq_true (by omega)
        clear c15
        by_cases c16 : 1 < (l0.length : Int)
        ·rw [if_pos c16] at H
         have c16b0 : decide (1 < (l0.length : Int)) = true := decide_eq_true c16
         have c16b1 : decide (1 < l0.length) = true := decide_eq_true (by omega)
         clear c16
         have H' := aM H
         clear H
         have p247 : 0 ≤ (0 : Int) := (by omega)
         have q247 : 0 < (l0.length : Int) := of_decide_eq_true (by first | (with_reducible assumption) | assumption)
         obtain ⟨ad247, e247, hx247_0⟩ := Kd.at_int HR0.out 0 p247 q247
         obtain rfl : ad245 = ad247 := (by injection e247)
         have qi247 : (0 < l0.length) = True := eq_true (by omega)
         (try rw [show ((0 : Int)).toNat = 0 from rfl] at hx247_0)
         (try rw [Addr.add_zero'] at hx247_0)
         have hn247_0 : ad245.block ≠ gb246 := Nat.ne_of_lt (Nat.lt_of_lt_of_le (by have := World.block_lt_of_cell? _ _ hx247_0; first | rwa [add_block] at this | exact this) GW246.out)
         have hn247_1 : ad245.block ≠ gb246 := Nat.ne_of_lt (Nat.lt_of_lt_of_le (by have := World.block_lt_of_cell? _ _ hx247_0; first | rwa [add_block] at this | exact this) GW246.out)
         have hn247_2 : ad245.block ≠ gb246 := Nat.ne_of_lt (Nat.lt_of_lt_of_le (by have := World.block_lt_of_cell? _ _ hx247_0; first | rwa [add_block] at this | exact this) GW246.out)
         have hn247_3 : ad245.block ≠ gb246 := Nat.ne_of_lt (Nat.lt_of_lt_of_le (by have := World.block_lt_of_cell? _ _ hx247_0; first | rwa [add_block] at this | exact this) GW246.out)
         have hn247_4 : ad245.block ≠ gb246 := Nat.ne_of_lt (Nat.lt_of_lt_of_le (by have := World.block_lt_of_cell? _ _ hx247_0; first | rwa [add_block] at this | exact this) GW246.out)
         have hn247_5 : ad245.block ≠ gb246 := Nat.ne_of_lt (Nat.lt_of_lt_of_le (by have := World.block_lt_of_cell? _ _ hx247_0; first | rwa [add_block] at this | exact this) GW246.out)
         replace hx247_0 := (HB.out.cell (World.block_lt_of_cell? w _ hx247_0)).trans hx247_0
         replace hx247_0 := (cell_far (p := ⟨gb246, 0, none⟩) (by first | (rw [add_block]; exact hn247_0) | (show (Addr.add _ _).block ≠ _; rw [add_block]; exact hn247_0) | exact hn247_0) (.int .i64 (wrap64 (Go.bits .and .u8 (rd l0 0) 127)))).trans hx247_0
         replace hx247_0 := (cell_far (p := ⟨gb246, 1, none⟩) (by first | (rw [add_block]; exact hn247_1) | (show (Addr.add _ _).block ≠ _; rw [add_block]; exact hn247_1) | exact hn247_1) (.int .i64 0)).trans hx247_0
         replace hx247_0 := (cell_far (p := ⟨gb246, 2, none⟩) (by first | (rw [add_block]; exact hn247_2) | (show (Addr.add _ _).block ≠ _; rw [add_block]; exact hn247_2) | exact hn247_2) (.int .i64 0)).trans hx247_0
         replace hx247_0 := (cell_far (p := ⟨gb246, 3, none⟩) (by first | (rw [add_block]; exact hn247_3) | (show (Addr.add _ _).block ≠ _; rw [add_block]; exact hn247_3) | exact hn247_3) (.int .i64 0)).trans hx247_0
         replace hx247_0 := (cell_far (p := ⟨gb246, 4, none⟩) (by first | (rw [add_block]; exact hn247_4) | (show (Addr.add _ _).block ≠ _; rw [add_block]; exact hn247_4) | exact hn247_4) (.slice none 0 0)).trans hx247_0
         replace hx247_0 := (cell_far (p := ⟨gb246, 5, none⟩) (by first | (rw [add_block]; exact hn247_5) | (show (Addr.add _ _).block ≠ _; rw [add_block]; exact hn247_5) | exact hn247_5) (.slice none 0 0)).trans hx247_0
         clear hn247_0
         clear hn247_1
         clear hn247_2
         clear hn247_3
         clear hn247_4
         clear hn247_5
         replace p247 := eq_true p247
         replace q247 := eq_true q247
         have p248 : 0 ≤ (1 : Int) := (by omega)
         have q248 : 1 < (l0.length : Int) := of_decide_eq_true (by first | (with_reducible assumption) | assumption)
         obtain ⟨ad248, e248, hx248_0⟩ := Kd.at_int HR0.out 1 p248 q248
         obtain rfl : ad245 = ad248 := (by injection e248)
         (try simp only [show (1 : Int).toNat = 1 from rfl, Nat.reduceMul, Nat.reduceEqDiff, Go.Addr.add, ↓reduceIte] at hx248_0)
         have qi248 : (1 < l0.length) = True := eq_true (by omega)
         (try rw [show ((1 : Int)).toNat = 1 from rfl] at hx248_0)
         have hn248_0 : ad245.block ≠ gb246 := Nat.ne_of_lt (Nat.lt_of_lt_of_le (by have := World.block_lt_of_cell? _ _ hx248_0; first | rwa [add_block] at this | exact this) GW246.out)
         have hn248_1 : ad245.block ≠ gb246 := Nat.ne_of_lt (Nat.lt_of_lt_of_le (by have := World.block_lt_of_cell? _ _ hx248_0; first | rwa [add_block] at this | exact this) GW246.out)
         have hn248_2 : ad245.block ≠ gb246 := Nat.ne_of_lt (Nat.lt_of_lt_of_le (by have := World.block_lt_of_cell? _ _ hx248_0; first | rwa [add_block] at this | exact this) GW246.out)
         have hn248_3 : ad245.block ≠ gb246 := Nat.ne_of_lt (Nat.lt_of_lt_of_le (by have := World.block_lt_of_cell? _ _ hx248_0; first | rwa [add_block] at this | exact this) GW246.out)
         have hn248_4 : ad245.block ≠ gb246 := Nat.ne_of_lt (Nat.lt_of_lt_of_le (by have := World.block_lt_of_cell? _ _ hx248_0; first | rwa [add_block] at this | exact this) GW246.out)
         have hn248_5 : ad245.block ≠ gb246 := Nat.ne_of_lt (Nat.lt_of_lt_of_le (by have := World.block_lt_of_cell? _ _ hx248_0; first | rwa [add_block] at this | exact this) GW246.out)
         replace hx248_0 := (HB.out.cell (World.block_lt_of_cell? w _ hx248_0)).trans hx248_0
         replace hx248_0 := (cell_far (p := ⟨gb246, 0, none⟩) (by first | (rw [add_block]; exact hn248_0) | (show (Addr.add _ _).block ≠ _; rw [add_block]; exact hn248_0) | exact hn248_0) (.int .i64 (wrap64 (Go.bits .and .u8 (rd l0 0) 127)))).trans hx248_0
         replace hx248_0 := (cell_far (p := ⟨gb246, 1, none⟩) (by first | (rw [add_block]; exact hn248_1) | (show (Addr.add _ _).block ≠ _; rw [add_block]; exact hn248_1) | exact hn248_1) (.int .i64 0)).trans hx248_0
         replace hx248_0 := (cell_far (p := ⟨gb246, 2, none⟩) (by first | (rw [add_block]; exact hn248_2) | (show (Addr.add _ _).block ≠ _; rw [add_block]; exact hn248_2) | exact hn248_2) (.int .i64 0)).trans hx248_0
         replace hx248_0 := (cell_far (p := ⟨gb246, 3, none⟩) (by first | (rw [add_block]; exact hn248_3) | (show (Addr.add _ _).block ≠ _; rw [add_block]; exact hn248_3) | exact hn248_3) (.int .i64 0)).trans hx248_0
         replace hx248_0 := (cell_far (p := ⟨gb246, 4, none⟩) (by first | (rw [add_block]; exact hn248_4) | (show (Addr.add _ _).block ≠ _; rw [add_block]; exact hn248_4) | exact hn248_4) (.slice none 0 0)).trans hx248_0
         replace hx248_0 := (cell_far (p := ⟨gb246, 5, none⟩) (by first | (rw [add_block]; exact hn248_5) | (show (Addr.add _ _).block ≠ _; rw [add_block]; exact hn248_5) | exact hn248_5) (.slice none 0 0)).trans hx248_0
         clear hn248_0
         clear hn248_1
         clear hn248_2
         clear hn248_3
         clear hn248_4
         clear hn248_5
         replace p248 := eq_true p248
         replace q248 := eq_true q248
         have hnb17 := NB246_242.out
         have hnc17 := NB242_246.out
         obtain ⟨hcz18_0, hfz18_0, hcz18_1, hfz18_1, hcz18_2, hfz18_2, hcz18_3, hfz18_3, hcz18_4, hfz18_4, hcz18_5, hfz18_5⟩ := bk6 BK246.out
         go_wp2
         go_meet
         case rel => exact ⟨_, (wrap64 (rd l0 1)), (0), (0), (([] : List Int)), (([] : List Bool)), (.slice none 0 0), (.slice none 0 0), H', ⟨by have := HJ1.out; first | omega | exact Nat.le_refl _⟩, ⟨by first | exact Kd.R_nil _ _ _ _ _ | exact Kd.N_nil _ _ _ _ _ | exact Kd.V_nil _ _ _ _ _ | exact Kd.Q_nil _ _ _ _ _ | exact Kd.S_nil _ _ _ _ _⟩, ⟨by first | exact Kd.R_nil _ _ _ _ _ | exact Kd.N_nil _ _ _ _ _ | exact Kd.V_nil _ _ _ _ _ | exact Kd.Q_nil _ _ _ _ _ | exact Kd.S_nil _ _ _ _ _⟩, ⟨kX BK242.out⟩, ⟨kX BK246.out⟩, ⟨bS HB.out⟩⟩
        ·rw [if_neg c16] at H
         exact absurd H (by simp)
       ·rw [if_neg c15] at H
        have c15b0 : decide (1 < (l0.length : Int)) = false := decide_eq_false c15
        have c15b1 : decide (1 < l0.length) = false := decide_eq_false (by omega)
        clear c15
        have H' := aM H
        clear H
        have p247 : 0 ≤ (0 : Int) := (by omega)
        have q247 : 0 < (l0.length : Int) := of_decide_eq_true (by first | (with_reducible assumption) | assumption)
        obtain ⟨ad247, e247, hx247_0⟩ := Kd.at_int HR0.out 0 p247 q247
        obtain rfl : ad245 = ad247 := (by injection e247)
        have qi247 : (0 < l0.length) = True := eq_true (by omega)
        (try rw [show ((0 : Int)).toNat = 0 from rfl] at hx247_0)
        (try rw [Addr.add_zero'] at hx247_0)
        have hn247_0 : ad245.block ≠ gb246 := Nat.ne_of_lt (Nat.lt_of_lt_of_le (by have := World.block_lt_of_cell? _ _ hx247_0; first | rwa [add_block] at this | exact this) GW246.out)
        have hn247_1 : ad245.block ≠ gb246 := Nat.ne_of_lt (Nat.lt_of_lt_of_le (by have := World.block_lt_of_cell? _ _ hx247_0; first | rwa [add_block] at this | exact this) GW246.out)
        have hn247_2 : ad245.block ≠ gb246 := Nat.ne_of_lt (Nat.lt_of_lt_of_le (by have := World.block_lt_of_cell? _ _ hx247_0; first | rwa [add_block] at this | exact this) GW246.out)
        have hn247_3 : ad245.block ≠ gb246 := Nat.ne_of_lt (Nat.lt_of_lt_of_le (by have := World.block_lt_of_cell? _ _ hx247_0; first | rwa [add_block] at this | exact this) GW246.out)
        have hn247_4 : ad245.block ≠ gb246 := Nat.ne_of_lt (Nat.lt_of_lt_of_le (by have := World.block_lt_of_cell? _ _ hx247_0; first | rwa [add_block] at this | exact this) GW246.out)
        have hn247_5 : ad245.block ≠ gb246 := Nat.ne_of_lt (Nat.lt_of_lt_of_le (by have := World.block_lt_of_cell? _ _ hx247_0; first | rwa [add_block] at this | exact this) GW246.out)
        replace hx247_0 := (HB.out.cell (World.block_lt_of_cell? w _ hx247_0)).trans hx247_0
        replace hx247_0 := (cell_far (p := ⟨gb246, 0, none⟩) (by first | (rw [add_block]; exact hn247_0) | (show (Addr.add _ _).block ≠ _; rw [add_block]; exact hn247_0) | exact hn247_0) (.int .i64 (wrap64 (Go.bits .and .u8 (rd l0 0) 127)))).trans hx247_0
        replace hx247_0 := (cell_far (p := ⟨gb246, 1, none⟩) (by first | (rw [add_block]; exact hn247_1) | (show (Addr.add _ _).block ≠ _; rw [add_block]; exact hn247_1) | exact hn247_1) (.int .i64 0)).trans hx247_0
        replace hx247_0 := (cell_far (p := ⟨gb246, 2, none⟩) (by first | (rw [add_block]; exact hn247_2) | (show (Addr.add _ _).block ≠ _; rw [add_block]; exact hn247_2) | exact hn247_2) (.int .i64 0)).trans hx247_0
        replace hx247_0 := (cell_far (p := ⟨gb246, 3, none⟩) (by first | (rw [add_block]; exact hn247_3) | (show (Addr.add _ _).block ≠ _; rw [add_block]; exact hn247_3) | exact hn247_3) (.int .i64 0)).trans hx247_0
        replace hx247_0 := (cell_far (p := ⟨gb246, 4, none⟩) (by first | (rw [add_block]; exact hn247_4) | (show (Addr.add _ _).block ≠ _; rw [add_block]; exact hn247_4) | exact hn247_4) (.slice none 0 0)).trans hx247_0
        replace hx247_0 := (cell_far (p := ⟨gb246, 5, none⟩) (by first | (rw [add_block]; exact hn247_5) | (show (Addr.add _ _).block ≠ _; rw [add_block]; exact hn247_5) | exact hn247_5) (.slice none 0 0)).trans hx247_0
        clear hn247_0
        clear hn247_1
        clear hn247_2
        clear hn247_3
        clear hn247_4
        clear hn247_5
        replace p247 := eq_true p247
        replace q247 := eq_true q247
        go_wp2
        go_meet
        case rel => exact ⟨_, (0), (0), (0), (([] : List Int)), (([] : List Bool)), (.slice none 0 0), (.slice none 0 0), H', ⟨by have := HJ1.out; first | omega | exact Nat.le_refl _⟩, ⟨by first | exact Kd.R_nil _ _ _ _ _ | exact Kd.N_nil _ _ _ _ _ | exact Kd.V_nil _ _ _ _ _ | exact Kd.Q_nil _ _ _ _ _ | exact Kd.S_nil _ _ _ _ _⟩, ⟨by first | exact Kd.R_nil _ _ _ _ _ | exact Kd.N_nil _ _ _ _ _ | exact Kd.V_nil _ _ _ _ _ | exact Kd.Q_nil _ _ _ _ _ | exact Kd.S_nil _ _ _ _ _⟩, ⟨kX BK242.out⟩, ⟨kX BK246.out⟩, ⟨bS HB.out⟩⟩
      ·rw [if_neg c14] at H
       have c14b0 : decide (127 < (rd l0 0)) = false := decide_eq_false c14
       clear c14
       (first | rw [c14b0] | (simp only [i64_w, i32_w]; rw [c14b0]) | skip)
       by_cases c19 : (wrap64 (Go.bits .and .u8 (rd l0 0) 127)) < 3
       ·rw [if_pos c19] at H
        have c19b0 : decide ((wrap64 (Go.bits .and .u8 (rd l0 0) 127)) < 3) = true := decide_eq_true c19
        clear c19
        by_cases c20 : (l0.length : Int) > 2
        ·rw [if_pos c20] at H
         have c20b0 : decide (2 < (l0.length : Int)) = true := decide_eq_true c20
         have c20b1 : decide (2 < l0.length) = true := decide_eq_true (by omega)
         clear c20
         by_cases c21 : 2 ≤ (l0.length : Int)
         ·rw [if_pos c21] at H
          have c21b0 := eq_true c21
          have c21b1 : decide (2 ≤ (l0.length : Int)) = true := decide_eq_true c21
          clear c21
          replace H := Option.bind_eq_some_iff.mp H
          obtain ⟨⟨t250, t251⟩, A220, H⟩ := H
          replace H : (spec_GetResp.j2 kj1 l0 (wrap64 (Go.bits .and .u8 (rd l0 0) 127)) 0 0 0 ([] : List Int) t250) = some (r1, r2, r3, r4, r5, r6, r7) := H
          have A22 := aM A220
          clear A220
          have H' := aM H
          clear H
          have p247 : 0 ≤ (0 : Int) := (by omega)
          have q247 : 0 < (l0.length : Int) := of_decide_eq_true (by first | (with_reducible assumption) | assumption)
          obtain ⟨ad247, e247, hx247_0⟩ := Kd.at_int HR0.out 0 p247 q247
          obtain rfl : ad245 = ad247 := (by injection e247)
          have qi247 : (0 < l0.length) = True := eq_true (by omega)
          (try rw [show ((0 : Int)).toNat = 0 from rfl] at hx247_0)
          (try rw [Addr.add_zero'] at hx247_0)
          have hn247_0 : ad245.block ≠ gb246 := Nat.ne_of_lt (Nat.lt_of_lt_of_le (by have := World.block_lt_of_cell? _ _ hx247_0; first | rwa [add_block] at this | exact this) GW246.out)
          have hn247_1 : ad245.block ≠ gb246 := Nat.ne_of_lt (Nat.lt_of_lt_of_le (by have := World.block_lt_of_cell? _ _ hx247_0; first | rwa [add_block] at this | exact this) GW246.out)
          have hn247_2 : ad245.block ≠ gb246 := Nat.ne_of_lt (Nat.lt_of_lt_of_le (by have := World.block_lt_of_cell? _ _ hx247_0; first | rwa [add_block] at this | exact this) GW246.out)
          have hn247_3 : ad245.block ≠ gb246 := Nat.ne_of_lt (Nat.lt_of_lt_of_le (by have := World.block_lt_of_cell? _ _ hx247_0; first | rwa [add_block] at this | exact this) GW246.out)
          have hn247_4 : ad245.block ≠ gb246 := Nat.ne_of_lt (Nat.lt_of_lt_of_le (by have := World.block_lt_of_cell? _ _ hx247_0; first | rwa [add_block] at this | exact this) GW246.out)
          have hn247_5 : ad245.block ≠ gb246 := Nat.ne_of_lt (Nat.lt_of_lt_of_le (by have := World.block_lt_of_cell? _ _ hx247_0; first | rwa [add_block] at this | exact this) GW246.out)
          replace hx247_0 := (HB.out.cell (World.block_lt_of_cell? w _ hx247_0)).trans hx247_0
          replace hx247_0 := (cell_far (p := ⟨gb246, 0, none⟩) (by first | (rw [add_block]; exact hn247_0) | (show (Addr.add _ _).block ≠ _; rw [add_block]; exact hn247_0) | exact hn247_0) (.int .i64 (wrap64 (Go.bits .and .u8 (rd l0 0) 127)))).trans hx247_0
          replace hx247_0 := (cell_far (p := ⟨gb246, 1, none⟩) (by first | (rw [add_block]; exact hn247_1) | (show (Addr.add _ _).block ≠ _; rw [add_block]; exact hn247_1) | exact hn247_1) (.int .i64 0)).trans hx247_0
          replace hx247_0 := (cell_far (p := ⟨gb246, 2, none⟩) (by first | (rw [add_block]; exact hn247_2) | (show (Addr.add _ _).block ≠ _; rw [add_block]; exact hn247_2) | exact hn247_2) (.int .i64 0)).trans hx247_0
          replace hx247_0 := (cell_far (p := ⟨gb246, 3, none⟩) (by first | (rw [add_block]; exact hn247_3) | (show (Addr.add _ _).block ≠ _; rw [add_block]; exact hn247_3) | exact hn247_3) (.int .i64 0)).trans hx247_0
          replace hx247_0 := (cell_far (p := ⟨gb246, 4, none⟩) (by first | (rw [add_block]; exact hn247_4) | (show (Addr.add _ _).block ≠ _; rw [add_block]; exact hn247_4) | exact hn247_4) (.slice none 0 0)).trans hx247_0
          replace hx247_0 := (cell_far (p := ⟨gb246, 5, none⟩) (by first | (rw [add_block]; exact hn247_5) | (show (Addr.add _ _).block ≠ _; rw [add_block]; exact hn247_5) | exact hn247_5) (.slice none 0 0)).trans hx247_0
          clear hn247_0
          clear hn247_1
          clear hn247_2
          clear hn247_3
          clear hn247_4
          clear hn247_5
          replace p247 := eq_true p247
          replace q247 := eq_true q247
          have hnb23 := NB246_242.out
          have hnc23 := NB242_246.out
          obtain ⟨hcz24_0, hfz24_0, hcz24_1, hfz24_1, hcz24_2, hfz24_2, hcz24_3, hfz24_3, hcz24_4, hfz24_4, hcz24_5, hfz24_5⟩ := bk6 BK246.out
          obtain ⟨i025, hi025, _, hsz25, _⟩ := info_parts info5
          obtain ⟨A25, hcut25, hA25, hC25⟩ := print_drop_of (P := Try.prog) (Value.int .u8) 0 27 5 .i64 Try.underlying27 hi025 hsz25 (some ad245) c0 l0 2 (by omega) (of_decide_eq_true (by first | (with_reducible assumption) | assumption)) HC0.out
          have HR249 := aM (Kd.C_of_reads (h1 := fun _ => rfl) (hA25 _ (Kd.reads_of_C HR0.out)))
          have HC249 := aM hC25
          clear hA25 hC25 hi025 hsz25
          go_wp2_with (first | ((with_reducible refine gate_callee (f := 46) rfl ?_); refine goesL_ (some 80) rfl rfl Try.func46 (by kernel_rfl) rfl #[.slice A25 (l0.drop 2).length (c0 - 2), .int .i64 (wrap64 (8 * (wrap64 ((l0.length : Int) - 2))))] rfl (by (try simp only [List.map_toArray, List.map_cons, List.map_nil]); first | done | (rw [show (l0.drop 2).length = (l0.length - 2) from List.length_drop] <;> rfl) | rfl | (simp only [List.length_drop, List.length_take]; rfl)) ?_; (with_reducible refine (spec_UnpackBits.calls kj1 _ _ (l0.drop 2) (wrap64 (8 * (wrap64 ((l0.length : Int) - 2)))) t250 t251 _ ?side1 ?side2 A22.out).mono ?_); (case side1 => exact Kd.C_below HR249.out (bS HB.out)); (case side2 => exact HC249.out); rintro e w26 ⟨v252, rfl, ho0, hb⟩; refine ⟨_, rfl, ?_⟩; have _ := aM (Kd.R_lower ho0 (below_size (bS HB.out))); have _ := aM (blk_below (kF6 BK242.out NB242_246.out) hb); have _ := aM (blk_below (kP6 BK246.out) hb); have _ := aM (below_step (bS HB.out) hb); clear BK242 BK246 HB; rename_i HO253 BK242 BK246 HB; (try clear hb); (try clear ho0); obtain ⟨Ao27, co27, eo27⟩ := Kd.R_slice HO253.out; subst eo27; obtain ⟨hcz28_0, hfz28_0, hcz28_1, hfz28_1, hcz28_2, hfz28_2, hcz28_3, hfz28_3, hcz28_4, hfz28_4, hcz28_5, hfz28_5⟩ := bk6 BK246.out))
          go_meet
          case rel => exact ⟨_, (0), (0), (0), (([] : List Int)), (t250), (.slice none 0 0), (.slice Ao27 t250.length co27), H', ⟨by have := HJ1.out; first | omega | exact Nat.le_refl _⟩, ⟨by first | exact Kd.R_nil _ _ _ _ _ | exact Kd.N_nil _ _ _ _ _ | exact Kd.V_nil _ _ _ _ _ | exact Kd.Q_nil _ _ _ _ _ | exact Kd.S_nil _ _ _ _ _⟩, ⟨by (with_reducible repeat (first | apply Kd.R_alloc | apply Kd.R_drewN | apply Kd.R_drew)); exact Kd.R_mono (Kd.R_far (p := ⟨gb246, 5, none⟩) (Kd.R_types HO253.out BK246.out (by decide)) (fun _ hk => hk.2) (.slice Ao27 t250.length co27)) (fun _ hk => trivial)⟩, ⟨kX BK242.out⟩, ⟨kX BK246.out⟩, ⟨bS HB.out⟩⟩
         ·rw [if_neg c21] at H
          exact absurd H (by simp)
        ·rw [if_neg c20] at H
         have c20b0 : decide (2 < (l0.length : Int)) = false := decide_eq_false c20
         have c20b1 : decide (2 < l0.length) = false := decide_eq_false (by omega)
         clear c20
         have H' := aM H
         clear H
         have p247 : 0 ≤ (0 : Int) := (by omega)
         have q247 : 0 < (l0.length : Int) := of_decide_eq_true (by first | (with_reducible assumption) | assumption)
         obtain ⟨ad247, e247, hx247_0⟩ := Kd.at_int HR0.out 0 p247 q247
         obtain rfl : ad245 = ad247 := (by injection e247)
         have qi247 : (0 < l0.length) = True := eq_true (by omega)
         (try rw [show ((0 : Int)).toNat = 0 from rfl] at hx247_0)
         (try rw [Addr.add_zero'] at hx247_0)
         have hn247_0 : ad245.block ≠ gb246 := Nat.ne_of_lt (Nat.lt_of_lt_of_le (by have := World.block_lt_of_cell? _ _ hx247_0; first | rwa [add_block] at this | exact this) GW246.out)
         have hn247_1 : ad245.block ≠ gb246 := Nat.ne_of_lt (Nat.lt_of_lt_of_le (by have := World.block_lt_of_cell? _ _ hx247_0; first | rwa [add_block] at this | exact this) GW246.out)
         have hn247_2 : ad245.block ≠ gb246 := Nat.ne_of_lt (Nat.lt_of_lt_of_le (by have := World.block_lt_of_cell? _ _ hx247_0; first | rwa [add_block] at this | exact this) GW246.out)
         have hn247_3 : ad245.block ≠ gb246 := Nat.ne_of_lt (Nat.lt_of_lt_of_le (by have := World.block_lt_of_cell? _ _ hx247_0; first | rwa [add_block] at this | exact this) GW246.out)
         have hn247_4 : ad245.block ≠ gb246 := Nat.ne_of_lt (Nat.lt_of_lt_of_le (by have := World.block_lt_of_cell? _ _ hx247_0; first | rwa [add_block] at this | exact this) GW246.out)
         have hn247_5 : ad245.block ≠ gb246 := Nat.ne_of_lt (Nat.lt_of_lt_of_le (by have := World.block_lt_of_cell? _ _ hx247_0; first | rwa [add_block] at this | exact this) GW246.out)
         replace hx247_0 := (HB.out.cell (World.block_lt_of_cell? w _ hx247_0)).trans hx247_0
         replace hx247_0 := (cell_far (p := ⟨gb246, 0, none⟩) (by first | (rw [add_block]; exact hn247_0) | (show (Addr.add _ _).block ≠ _; rw [add_block]; exact hn247_0) | exact hn247_0) (.int .i64 (wrap64 (Go.bits .and .u8 (rd l0 0) 127)))).trans hx247_0
         replace hx247_0 := (cell_far (p := ⟨gb246, 1, none⟩) (by first | (rw [add_block]; exact hn247_1) | (show (Addr.add _ _).block ≠ _; rw [add_block]; exact hn247_1) | exact hn247_1) (.int .i64 0)).trans hx247_0
         replace hx247_0 := (cell_far (p := ⟨gb246, 2, none⟩) (by first | (rw [add_block]; exact hn247_2) | (show (Addr.add _ _).block ≠ _; rw [add_block]; exact hn247_2) | exact hn247_2) (.int .i64 0)).trans hx247_0
         replace hx247_0 := (cell_far (p := ⟨gb246, 3, none⟩) (by first | (rw [add_block]; exact hn247_3) | (show (Addr.add _ _).block ≠ _; rw [add_block]; exact hn247_3) | exact hn247_3) (.int .i64 0)).trans hx247_0
         replace hx247_0 := (cell_far (p := ⟨gb246, 4, none⟩) (by first | (rw [add_block]; exact hn247_4) | (show (Addr.add _ _).block ≠ _; rw [add_block]; exact hn247_4) | exact hn247_4) (.slice none 0 0)).trans hx247_0
         replace hx247_0 := (cell_far (p := ⟨gb246, 5, none⟩) (by first | (rw [add_block]; exact hn247_5) | (show (Addr.add _ _).block ≠ _; rw [add_block]; exact hn247_5) | exact hn247_5) (.slice none 0 0)).trans hx247_0
         clear hn247_0
         clear hn247_1
         clear hn247_2
         clear hn247_3
         clear hn247_4
         clear hn247_5
         replace p247 := eq_true p247
         replace q247 := eq_true q247
         have hnb29 := NB246_242.out
         have hnc29 := NB242_246.out
         obtain ⟨hcz30_0, hfz30_0, hcz30_1, hfz30_1, hcz30_2, hfz30_2, hcz30_3, hfz30_3, hcz30_4, hfz30_4, hcz30_5, hfz30_5⟩ := bk6 BK246.out
         go_wp2
         go_meet
         case rel => exact ⟨_, (0), (0), (0), (([] : List Int)), (([] : List Bool)), (.slice none 0 0), (.slice none 0 0), H', ⟨by have := HJ1.out; first | omega | exact Nat.le_refl _⟩, ⟨by first | exact Kd.R_nil _ _ _ _ _ | exact Kd.N_nil _ _ _ _ _ | exact Kd.V_nil _ _ _ _ _ | exact Kd.Q_nil _ _ _ _ _ | exact Kd.S_nil _ _ _ _ _⟩, ⟨by first | exact Kd.R_nil _ _ _ _ _ | exact Kd.N_nil _ _ _ _ _ | exact Kd.V_nil _ _ _ _ _ | exact Kd.Q_nil _ _ _ _ _ | exact Kd.S_nil _ _ _ _ _⟩, ⟨kX BK242.out⟩, ⟨kX BK246.out⟩, ⟨bS HB.out⟩⟩
       ·rw [if_neg c19] at H
        have c19b0 : decide ((wrap64 (Go.bits .and .u8 (rd l0 0) 127)) < 3) = false := decide_eq_false c19
        clear c19
        have HC31 := aM H
        clear H
        have p247 : 0 ≤ (0 : Int) := (by omega)
        have q247 : 0 < (l0.length : Int) := of_decide_eq_true (by first | (with_reducible assumption) | assumption)
        obtain ⟨ad247, e247, hx247_0⟩ := Kd.at_int HR0.out 0 p247 q247
        obtain rfl : ad245 = ad247 := (by injection e247)
        have qi247 : (0 < l0.length) = True := eq_true (by omega)
        (try rw [show ((0 : Int)).toNat = 0 from rfl] at hx247_0)
        (try rw [Addr.add_zero'] at hx247_0)
        have hn247_0 : ad245.block ≠ gb246 := Nat.ne_of_lt (Nat.lt_of_lt_of_le (by have := World.block_lt_of_cell? _ _ hx247_0; first | rwa [add_block] at this | exact this) GW246.out)
        have hn247_1 : ad245.block ≠ gb246 := Nat.ne_of_lt (Nat.lt_of_lt_of_le (by have := World.block_lt_of_cell? _ _ hx247_0; first | rwa [add_block] at this | exact this) GW246.out)
        have hn247_2 : ad245.block ≠ gb246 := Nat.ne_of_lt (Nat.lt_of_lt_of_le (by have := World.block_lt_of_cell? _ _ hx247_0; first | rwa [add_block] at this | exact this) GW246.out)
        have hn247_3 : ad245.block ≠ gb246 := Nat.ne_of_lt (Nat.lt_of_lt_of_le (by have := World.block_lt_of_cell? _ _ hx247_0; first | rwa [add_block] at this | exact this) GW246.out)
        have hn247_4 : ad245.block ≠ gb246 := Nat.ne_of_lt (Nat.lt_of_lt_of_le (by have := World.block_lt_of_cell? _ _ hx247_0; first | rwa [add_block] at this | exact this) GW246.out)
        have hn247_5 : ad245.block ≠ gb246 := Nat.ne_of_lt (Nat.lt_of_lt_of_le (by have := World.block_lt_of_cell? _ _ hx247_0; first | rwa [add_block] at this | exact this) GW246.out)
        replace hx247_0 := (HB.out.cell (World.block_lt_of_cell? w _ hx247_0)).trans hx247_0
        replace hx247_0 := (cell_far (p := ⟨gb246, 0, none⟩) (by first | (rw [add_block]; exact hn247_0) | (show (Addr.add _ _).block ≠ _; rw [add_block]; exact hn247_0) | exact hn247_0) (.int .i64 (wrap64 (Go.bits .and .u8 (rd l0 0) 127)))).trans hx247_0
        replace hx247_0 := (cell_far (p := ⟨gb246, 1, none⟩) (by first | (rw [add_block]; exact hn247_1) | (show (Addr.add _ _).block ≠ _; rw [add_block]; exact hn247_1) | exact hn247_1) (.int .i64 0)).trans hx247_0
        replace hx247_0 := (cell_far (p := ⟨gb246, 2, none⟩) (by first | (rw [add_block]; exact hn247_2) | (show (Addr.add _ _).block ≠ _; rw [add_block]; exact hn247_2) | exact hn247_2) (.int .i64 0)).trans hx247_0
        replace hx247_0 := (cell_far (p := ⟨gb246, 3, none⟩) (by first | (rw [add_block]; exact hn247_3) | (show (Addr.add _ _).block ≠ _; rw [add_block]; exact hn247_3) | exact hn247_3) (.int .i64 0)).trans hx247_0
        replace hx247_0 := (cell_far (p := ⟨gb246, 4, none⟩) (by first | (rw [add_block]; exact hn247_4) | (show (Addr.add _ _).block ≠ _; rw [add_block]; exact hn247_4) | exact hn247_4) (.slice none 0 0)).trans hx247_0
        replace hx247_0 := (cell_far (p := ⟨gb246, 5, none⟩) (by first | (rw [add_block]; exact hn247_5) | (show (Addr.add _ _).block ≠ _; rw [add_block]; exact hn247_5) | exact hn247_5) (.slice none 0 0)).trans hx247_0
        clear hn247_0
        clear hn247_1
        clear hn247_2
        clear hn247_3
        clear hn247_4
        clear hn247_5
        replace p247 := eq_true p247
        replace q247 := eq_true q247
        have hnb32 := NB246_242.out
        have hnc32 := NB242_246.out
        obtain ⟨hcz33_0, hfz33_0, hcz33_1, hfz33_1, hcz33_2, hfz33_2, hcz33_3, hfz33_3, hcz33_4, hfz33_4, hcz33_5, hfz33_5⟩ := bk6 BK246.out
        go_upto_region 19 with (fail)
        go_cut [84] (fun v84 wc => ∃ (kq : Nat) (x84_30 : Bool), v84 = .bool x84_30 ∧ Aside0 (spec_GetResp.j1 kq l0 x84_30 (wrap64 (Go.bits .and .u8 (rd l0 0) 127)) 0 0 0 = some (r1, r2, r3, r4, r5, r6, r7)) ∧ Aside0 (kq ≤ kj1) ∧ Aside0 (wc.heap[gb242]? = some (.cells #[.int .i64 0, .int .i64 0, .int .i64 0, .int .i64 0, (.slice none 0 0), (.slice none 0 0)] 29 (0, 0))) ∧ Aside0 (wc.heap[gb246]? = some (.cells #[.int .i64 (wrap64 (Go.bits .and .u8 (rd l0 0) 127)), .int .i64 0, .int .i64 0, .int .i64 0, (.slice none 0 0), (.slice none 0 0)] 29 (0, 0))) ∧ Aside0 (Below w.heap.size w wc))
        case first =>
         have H := HC31.out
         clear HC31
         by_cases c34 : (wrap64 (Go.bits .and .u8 (rd l0 0) 127)) < 5
         ·rw [if_pos c34] at H
          have c34b0 : decide ((wrap64 (Go.bits .and .u8 (rd l0 0) 127)) < 5) = true := decide_eq_true c34
          clear c34
          (first | rw [c34b0] | (simp only [i64_w, i32_w]; rw [c34b0]) | skip)
          have H' := aM H
          clear H
          have hnb35 := NB246_242.out
          have hnc35 := NB242_246.out
          obtain ⟨hcz36_0, hfz36_0, hcz36_1, hfz36_1, hcz36_2, hfz36_2, hcz36_3, hfz36_3, hcz36_4, hfz36_4, hcz36_5, hfz36_5⟩ := bk6 BK246.out
          go_wp2
          go_meet
          case rel => exact ⟨_, (true), (by first | rfl | (simp; done) | (simp [*]; done)), H', ⟨by have := HJ1.out; first | omega | exact Nat.le_refl _⟩, ⟨kX BK242.out⟩, ⟨kX BK246.out⟩, ⟨bS HB.out⟩⟩
         ·rw [if_neg c34] at H
          have c34b0 : decide ((wrap64 (Go.bits .and .u8 (rd l0 0) 127)) < 5) = false := decide_eq_false c34
          clear c34
          (first | rw [c34b0] | (simp only [i64_w, i32_w]; rw [c34b0]) | skip)
          have H' := aM H
          clear H
          have hnb37 := NB246_242.out
          have hnc37 := NB242_246.out
          obtain ⟨hcz38_0, hfz38_0, hcz38_1, hfz38_1, hcz38_2, hfz38_2, hcz38_3, hfz38_3, hcz38_4, hfz38_4, hcz38_5, hfz38_5⟩ := bk6 BK246.out
          go_wp2
          go_meet
          case rel => exact ⟨_, (((wrap64 (Go.bits .and .u8 (rd l0 0) 127)) == 23)), (by first | rfl | (simp; done) | (simp [*]; done)), H', ⟨by have := HJ1.out; first | omega | exact Nat.le_refl _⟩, ⟨kX BK242.out⟩, ⟨kX BK246.out⟩, ⟨bS HB.out⟩⟩
        case rest =>
         clear HC31
         try clear c1
         try clear p2
         try clear q2
         try clear hx2
         try clear qi2
         try clear c4
         try clear c4b0
         try clear c4b1
         try clear c4b2
         try clear c5
         try clear c5b0
         try clear c5b1
         try clear p6
         try clear c7
         try clear c9
         try clear c9b0
         try clear c9b1
         try clear c14
         try clear c14b0
         try clear c15
         try clear c15b0
         try clear c15b1
         try clear c16
         try clear c16b0
         try clear c16b1
         try clear c19
         try clear c19b0
         try clear c20
         try clear c20b0
         try clear c20b1
         try clear c21
         try clear c21b0
         try clear c21b1
         try clear hcz13_0
         try clear hcz13_1
         try clear hcz13_2
         try clear hcz13_3
         try clear hcz13_4
         try clear hcz13_5
         try clear hcz18_0
         try clear hcz18_1
         try clear hcz18_2
         try clear hcz18_3
         try clear hcz18_4
         try clear hcz18_5
         try clear hcz24_0
         try clear hcz24_1
         try clear hcz24_2
         try clear hcz24_3
         try clear hcz24_4
         try clear hcz24_5
         try clear hcz28_0
         try clear hcz28_1
         try clear hcz28_2
         try clear hcz28_3
         try clear hcz28_4
         try clear hcz28_5
         try clear hcz30_0
         try clear hcz30_1
         try clear hcz30_2
         try clear hcz30_3
         try clear hcz30_4
         try clear hcz30_5
         try clear hcz33_0
         try clear hcz33_1
         try clear hcz33_2
         try clear hcz33_3
         try clear hcz33_4
         try clear hcz33_5
         try clear hcz8_0
         try clear hcz8_1
         try clear hcz8_2
         try clear hcz8_3
         try clear hcz8_4
         try clear hcz8_5
         try clear hfz13_0
         try clear hfz13_1
         try clear hfz13_2
         try clear hfz13_3
         try clear hfz13_4
         try clear hfz13_5
         try clear hfz18_0
         try clear hfz18_1
         try clear hfz18_2
         try clear hfz18_3
         try clear hfz18_4
         try clear hfz18_5
         try clear hfz24_0
         try clear hfz24_1
         try clear hfz24_2
         try clear hfz24_3
         try clear hfz24_4
         try clear hfz24_5
         try clear hfz28_0
         try clear hfz28_1
         try clear hfz28_2
         try clear hfz28_3
         try clear hfz28_4
         try clear hfz28_5
         try clear hfz30_0
         try clear hfz30_1
         try clear hfz30_2
         try clear hfz30_3
         try clear hfz30_4
         try clear hfz30_5
         try clear hfz33_0
         try clear hfz33_1
         try clear hfz33_2
         try clear hfz33_3
         try clear hfz33_4
         try clear hfz33_5
         try clear hfz8_0
         try clear hfz8_1
         try clear hfz8_2
         try clear hfz8_3
         try clear hfz8_4
         try clear hfz8_5
         try clear hx243_0
         try clear hx245_0
         try clear hx247_0
         try clear hx248_0
         try clear p2
         try clear p243
         try clear p245
         try clear p247
         try clear p248
         try clear p6
         try clear q2
         try clear q243
         try clear q245
         try clear q247
         try clear q248
         obtain ⟨kq, x84_30, rfl, HA, HJ30, BK242, BK246, HB⟩ := hcut
         cases kq with
         | zero => exact absurd HA.out (by simp [spec_GetResp.j1])
         | succ kj30 =>
          have H := HA.out
          clear HA
          simp only [spec_GetResp.j1] at H
          by_cases c39 : x84_30 = true
          ·subst c39
           have H1 : ((spec_l3GetWords.f kj30 l0 2).bind fun t254 => (spec_GetResp.j2 kj30 l0 (wrap64 (Go.bits .and .u8 (rd l0 0) 127)) 0 0 0 t254 ([] : List Bool))) = some (r1, r2, r3, r4, r5, r6, r7) := by rw [if_pos rfl] at H; exact H
           clear H
           have H := H1
           clear H1
           replace H := Option.bind_eq_some_iff.mp H
           obtain ⟨t254, A400, H⟩ := H
           replace H : (spec_GetResp.j2 kj30 l0 (wrap64 (Go.bits .and .u8 (rd l0 0) 127)) 0 0 0 t254 ([] : List Bool)) = some (r1, r2, r3, r4, r5, r6, r7) := H
           have A40 := aM A400
           clear A400
           have H' := aM H
           clear H
           go_wp2_with (first | ((with_reducible refine gate_callee (f := 47) rfl ?_); refine gL (some 94) rfl rfl Try.func47 (by kernel_rfl) rfl #[.slice (some ad245) l0.length c0, .int .i64 2] rfl ?_; (with_reducible refine (spec_l3GetWords.calls kj30 _ _ l0 2 t254 _ ?side1 ?side2 A40.out).mono ?_); (case side1 => exact cB HR0.out HB.out); (case side2 => exact HC0.out); rintro e w41 ⟨v255, rfl, ho0, hb⟩; refine ⟨_, rfl, ?_⟩; have _ := aM (Kd.R_lower ho0 (below_size (bS HB.out))); have _ := aM (kB BK242.out hb); have _ := aM (kB BK246.out hb); have _ := aM (below_step (bS HB.out) hb); clear BK242 BK246 HB; rename_i HO256 BK242 BK246 HB; (try clear hb); (try clear ho0); obtain ⟨Ao42, co42, eo42⟩ := Kd.R_slice HO256.out; subst eo42; have hnb43 := NB246_242.out; have hnc43 := NB242_246.out; obtain ⟨hcz44_0, hfz44_0, hcz44_1, hfz44_1, hcz44_2, hfz44_2, hcz44_3, hfz44_3, hcz44_4, hfz44_4, hcz44_5, hfz44_5⟩ := bk6 BK246.out))
           go_meet
           case rel => exact ⟨_, (0), (0), (0), (t254), (([] : List Bool)), (.slice Ao42 t254.length co42), (.slice none 0 0), H', ⟨by have := HJ1.out; have := HJ30.out; first | omega | exact Nat.le_refl _⟩, ⟨by (with_reducible repeat (first | apply Kd.R_alloc | apply Kd.R_drewN | apply Kd.R_drew)); exact Kd.R_mono (Kd.R_far (p := ⟨gb246, 4, none⟩) (Kd.R_types HO256.out BK246.out (by decide)) (fun _ hk => hk.2) (.slice Ao42 t254.length co42)) (fun _ hk => trivial)⟩, ⟨by first | exact Kd.R_nil _ _ _ _ _ | exact Kd.N_nil _ _ _ _ _ | exact Kd.V_nil _ _ _ _ _ | exact Kd.Q_nil _ _ _ _ _ | exact Kd.S_nil _ _ _ _ _⟩, ⟨kX BK242.out⟩, ⟨kX BK246.out⟩, ⟨bS HB.out⟩⟩
          ·replace c39 := Bool.eq_false_iff.mpr c39
           subst c39
           have H1 : ((spec_WordAt.f l0 1).bind fun bt257 => ((spec_WordAt.f l0 3).bind fun bt259 => (if (wrap64 (Go.bits .and .u8 (rd l0 0) 127)) = 5 then (spec_GetResp.j2 kj30 l0 (wrap64 (Go.bits .and .u8 (rd l0 0) 127)) 0 bt257.1 0 ([] : List Int) (([(bt259.1 != 0)] : List Bool))) else (if (wrap64 (Go.bits .and .u8 (rd l0 0) 127)) = 6 then ((spec_l3GetWords.f kj30 l0 3).bind fun t264 => (spec_GetResp.j2 kj30 l0 (wrap64 (Go.bits .and .u8 (rd l0 0) 127)) 0 bt257.1 0 t264 ([] : List Bool))) else (if (wrap64 (Go.bits .and .u8 (rd l0 0) 127)) = 22 then ((spec_l3GetWords.f kj30 l0 3).bind fun t267 => (spec_GetResp.j2 kj30 l0 (wrap64 (Go.bits .and .u8 (rd l0 0) 127)) 0 bt257.1 0 t267 ([] : List Bool))) else (spec_GetResp.j2 kj30 l0 (wrap64 (Go.bits .and .u8 (rd l0 0) 127)) 0 bt257.1 bt259.1 ([] : List Int) ([] : List Bool))))))) = some (r1, r2, r3, r4, r5, r6, r7) := by rw [if_neg (show ¬ (false = true) by decide)] at H; exact H
           clear H
           have H := H1
           clear H1
           replace H := Option.bind_eq_some_iff.mp H
           obtain ⟨⟨t257, t258⟩, A450, H⟩ := H
           replace H : ((spec_WordAt.f l0 3).bind fun bt259 => (if (wrap64 (Go.bits .and .u8 (rd l0 0) 127)) = 5 then (spec_GetResp.j2 kj30 l0 (wrap64 (Go.bits .and .u8 (rd l0 0) 127)) 0 t257 0 ([] : List Int) (([(bt259.1 != 0)] : List Bool))) else (if (wrap64 (Go.bits .and .u8 (rd l0 0) 127)) = 6 then ((spec_l3GetWords.f kj30 l0 3).bind fun t264 => (spec_GetResp.j2 kj30 l0 (wrap64 (Go.bits .and .u8 (rd l0 0) 127)) 0 t257 0 t264 ([] : List Bool))) else (if (wrap64 (Go.bits .and .u8 (rd l0 0) 127)) = 22 then ((spec_l3GetWords.f kj30 l0 3).bind fun t267 => (spec_GetResp.j2 kj30 l0 (wrap64 (Go.bits .and .u8 (rd l0 0) 127)) 0 t257 0 t267 ([] : List Bool))) else (spec_GetResp.j2 kj30 l0 (wrap64 (Go.bits .and .u8 (rd l0 0) 127)) 0 t257 bt259.1 ([] : List Int) ([] : List Bool)))))) = some (r1, r2, r3, r4, r5, r6, r7) := H
           have A45 := aM A450
           clear A450
           replace H := Option.bind_eq_some_iff.mp H
           obtain ⟨⟨t259, t260⟩, A460, H⟩ := H
           replace H : (if (wrap64 (Go.bits .and .u8 (rd l0 0) 127)) = 5 then (spec_GetResp.j2 kj30 l0 (wrap64 (Go.bits .and .u8 (rd l0 0) 127)) 0 t257 0 ([] : List Int) (([(t259 != 0)] : List Bool))) else (if (wrap64 (Go.bits .and .u8 (rd l0 0) 127)) = 6 then ((spec_l3GetWords.f kj30 l0 3).bind fun t264 => (spec_GetResp.j2 kj30 l0 (wrap64 (Go.bits .and .u8 (rd l0 0) 127)) 0 t257 0 t264 ([] : List Bool))) else (if (wrap64 (Go.bits .and .u8 (rd l0 0) 127)) = 22 then ((spec_l3GetWords.f kj30 l0 3).bind fun t267 => (spec_GetResp.j2 kj30 l0 (wrap64 (Go.bits .and .u8 (rd l0 0) 127)) 0 t257 0 t267 ([] : List Bool))) else (spec_GetResp.j2 kj30 l0 (wrap64 (Go.bits .and .u8 (rd l0 0) 127)) 0 t257 t259 ([] : List Int) ([] : List Bool))))) = some (r1, r2, r3, r4, r5, r6, r7) := H
           have A46 := aM A460
           clear A460
           by_cases c47 : (wrap64 (Go.bits .and .u8 (rd l0 0) 127)) = 5
           ·rw [if_pos c47] at H
            have c47b0 : ((wrap64 (Go.bits .and .u8 (rd l0 0) 127)) == 5) = true := beq_iff_eq.mpr c47
            have c47b1 : ((wrap64 (Go.bits .and .u8 (rd l0 0) 127)) != 5) = false := bne_eq_false_iff_eq.mpr c47
            clear c47
            obtain ⟨y261, hy261⟩ : ∃ y_ : List Bool, y_ = (([(t259 != 0)] : List Bool)) := ⟨_, rfl⟩
            replace H : (spec_GetResp.j2 kj30 l0 (wrap64 (Go.bits .and .u8 (rd l0 0) 127)) 0 t257 0 ([] : List Int) y261) = some (r1, r2, r3, r4, r5, r6, r7) := by first | (rw [hy261]; with_reducible exact H) | (have H2_ := (Option.bind_some _ _).symm.trans H; rw [hy261]; with_reducible exact H2_) | (have H2_ := (Option.bind_some _ _).symm.trans H; with_reducible exact H2_) | with_reducible exact H | (rw [hy261]; exact H) | exact H
            have Ny261 := aM hy261
            clear hy261
            have H' := aM H
            clear H
            go_wp2_with (first | ((with_reducible refine gate_callee (f := 48) rfl ?_); refine gL (some 28) rfl rfl Try.func48 (by kernel_rfl) rfl #[.slice (some ad245) l0.length c0, .int .i64 1] rfl ?_; (with_reducible refine (spec_WordAt.calls _ _ l0 1 t257 t258 _ ?side1 ?side2 A45.out).mono ?_); (case side1 => exact cB HR0.out HB.out); (case side2 => exact HC0.out); rintro e w' ⟨rfl, ⟨nd, rfl⟩⟩; refine ⟨_, rfl, ?_⟩; (try (rw [drewN_self wc]; generalize hq_ : World.drewN wc _ = wc; have n0_ : Aside0 (wc.heap[gb242]? = some (.cells #[.int .i64 0, .int .i64 0, .int .i64 0, .int .i64 0, .slice none 0 0, .slice none 0 0] 29 (0, 0))) := ⟨by rw [← hq_]; exact (kA BK242.out)⟩; have n1_ : Aside0 (wc.heap[gb246]? = some (.cells #[.int .i64 (wrap64 (Go.bits .and .u8 (rd l0 0) 127)), .int .i64 0, .int .i64 0, .int .i64 0, .slice none 0 0, .slice none 0 0] 29 (0, 0))) := ⟨by rw [← hq_]; exact (kA BK246.out)⟩; have n2_ : Aside0 (Below w.heap.size w wc) := ⟨by rw [← hq_]; exact (bS HB.out)⟩; clear BK242 BK246 HB hq_; have BK242 := n0_; have BK246 := n1_; have HB := n2_; clear n0_ n1_ n2_; have hcugb242_0 : wc.cell? ⟨gb242, 0, none⟩ = some (.int .i64 0) := (blk_cell BK242.out 0).trans rfl; have hfugb242_0 := blk_frozen BK242.out 0; have hcugb242_1 : wc.cell? ⟨gb242, 1, none⟩ = some (.int .i64 0) := (blk_cell BK242.out 1).trans rfl; have hfugb242_1 := blk_frozen BK242.out 1; have hcugb242_2 : wc.cell? ⟨gb242, 2, none⟩ = some (.int .i64 0) := (blk_cell BK242.out 2).trans rfl; have hfugb242_2 := blk_frozen BK242.out 2; have hcugb242_3 : wc.cell? ⟨gb242, 3, none⟩ = some (.int .i64 0) := (blk_cell BK242.out 3).trans rfl; have hfugb242_3 := blk_frozen BK242.out 3; have hcugb242_4 : wc.cell? ⟨gb242, 4, none⟩ = some (.slice none 0 0) := (blk_cell BK242.out 4).trans rfl; have hfugb242_4 := blk_frozen BK242.out 4; have hcugb242_5 : wc.cell? ⟨gb242, 5, none⟩ = some (.slice none 0 0) := (blk_cell BK242.out 5).trans rfl; have hfugb242_5 := blk_frozen BK242.out 5; have hcugb246_0 : wc.cell? ⟨gb246, 0, none⟩ = some (.int .i64 (wrap64 (Go.bits .and .u8 (rd l0 0) 127))) := (blk_cell BK246.out 0).trans rfl; have hfugb246_0 := blk_frozen BK246.out 0; have hcugb246_1 : wc.cell? ⟨gb246, 1, none⟩ = some (.int .i64 0) := (blk_cell BK246.out 1).trans rfl; have hfugb246_1 := blk_frozen BK246.out 1; have hcugb246_2 : wc.cell? ⟨gb246, 2, none⟩ = some (.int .i64 0) := (blk_cell BK246.out 2).trans rfl; have hfugb246_2 := blk_frozen BK246.out 2; have hcugb246_3 : wc.cell? ⟨gb246, 3, none⟩ = some (.int .i64 0) := (blk_cell BK246.out 3).trans rfl; have hfugb246_3 := blk_frozen BK246.out 3; have hcugb246_4 : wc.cell? ⟨gb246, 4, none⟩ = some (.slice none 0 0) := (blk_cell BK246.out 4).trans rfl; have hfugb246_4 := blk_frozen BK246.out 4; have hcugb246_5 : wc.cell? ⟨gb246, 5, none⟩ = some (.slice none 0 0) := (blk_cell BK246.out 5).trans rfl; have hfugb246_5 := blk_frozen BK246.out 5)); have hnb48 := NB246_242.out; have hnc48 := NB242_246.out; obtain ⟨hcz49_0, hfz49_0, hcz49_1, hfz49_1, hcz49_2, hfz49_2, hcz49_3, hfz49_3, hcz49_4, hfz49_4, hcz49_5, hfz49_5⟩ := bk6 BK246.out) | ((with_reducible refine gate_callee (f := 48) rfl ?_); refine gL (some 34) rfl rfl Try.func48 (by kernel_rfl) rfl #[.slice (some ad245) l0.length c0, .int .i64 3] rfl ?_; (with_reducible refine (spec_WordAt.calls _ _ l0 3 t259 t260 _ ?side1 ?side2 A46.out).mono ?_); (case side1 => exact Kd.C_below HR0.out (bS HB.out)); (case side2 => exact HC0.out); rintro e w' ⟨rfl, ⟨nd, rfl⟩⟩; refine ⟨_, rfl, ?_⟩) | ((with_reducible refine gate_dst (N := 45) rfl ?_); refine Kd.R_lit Kd.bool _ 4 ?hg (N := 45) ?hd (xs := ([(t259 != 0)] : List Bool)) (inner := [.bool (t259 != 0)]) (ok := fun _ => True) (okp := fun _ => True) ?hr ?hp (fun _ hk => hk) trivial (Below.refl _ _) (Nat.le_refl _) (by simp) ?_; (case hd => rfl); (case hg => rfl); (case hr => first | (go_simp; done) | (go_simp; rfl)); (case hp => exact (Reps.one (show Kd.M Kd.bool _ _ _ (t259 != 0) [.bool (t259 != 0)] from rfl) (Reps.none _ _))); intro v262 w50 ho51 hb hg_ hnew_; clear hg_ hnew_; (first | rw [← Ny261.out] at ho51 | (simp only [Int.reduceToNat] at ho51; rw [← Ny261.out] at ho51)); have _ := aM (Kd.R_lower ho51 (below_size (bS HB.out))); have _ := aM (blk_below (kF1 BK242.out NB242_246.out) hb); have _ := aM (blk_below (g := gb246) (o := .cells #[.int .i64 (wrap64 (Go.bits .and .u8 (rd l0 0) 127)), .int .i64 0, .int .i64 t257, .int .i64 0, .slice none 0 0, .slice none 0 0] 29 (0, 0)) (kX BK246.out) hb); have _ := aM (below_step (bS HB.out) hb); clear BK242 BK246 HB; rename_i HO263 BK242 BK246 HB; clear hb ho51; obtain ⟨Ao52, co52, eo52⟩ := Kd.R_slice HO263.out; subst eo52; obtain ⟨hcz53_0, hfz53_0, hcz53_1, hfz53_1, hcz53_2, hfz53_2, hcz53_3, hfz53_3, hcz53_4, hfz53_4, hcz53_5, hfz53_5⟩ := bk6 BK246.out))
            go_meet
            case rel => exact ⟨_, (0), (t257), (0), (([] : List Int)), (y261), (.slice none 0 0), (.slice Ao52 y261.length co52), H', ⟨by have := HJ1.out; have := HJ30.out; first | omega | exact Nat.le_refl _⟩, ⟨by first | exact Kd.R_nil _ _ _ _ _ | exact Kd.N_nil _ _ _ _ _ | exact Kd.V_nil _ _ _ _ _ | exact Kd.Q_nil _ _ _ _ _ | exact Kd.S_nil _ _ _ _ _⟩, ⟨by (with_reducible repeat (first | apply Kd.R_alloc | apply Kd.R_drewN | apply Kd.R_drew)); exact Kd.R_mono (Kd.R_far (p := ⟨gb246, 5, none⟩) (Kd.R_types HO263.out BK246.out (by decide)) (fun _ hk => hk.2) (.slice Ao52 y261.length co52)) (fun _ hk => trivial)⟩, ⟨kX BK242.out⟩, ⟨kX BK246.out⟩, ⟨bS HB.out⟩⟩
           ·rw [if_neg c47] at H
            have c47b0 : ((wrap64 (Go.bits .and .u8 (rd l0 0) 127)) == 5) = false := beq_eq_false_iff_ne.mpr c47
            have c47b1 : ((wrap64 (Go.bits .and .u8 (rd l0 0) 127)) != 5) = true := bne_iff_ne.mpr c47
            by_cases c54 : (wrap64 (Go.bits .and .u8 (rd l0 0) 127)) = 6
            ·rw [if_pos c54] at H
             have c54b0 : ((wrap64 (Go.bits .and .u8 (rd l0 0) 127)) == 6) = true := beq_iff_eq.mpr c54
             have c54b1 : ((wrap64 (Go.bits .and .u8 (rd l0 0) 127)) != 6) = false := bne_eq_false_iff_eq.mpr c54
             clear c54
             replace H := Option.bind_eq_some_iff.mp H
             obtain ⟨t264, A550, H⟩ := H
             replace H : (spec_GetResp.j2 kj30 l0 (wrap64 (Go.bits .and .u8 (rd l0 0) 127)) 0 t257 0 t264 ([] : List Bool)) = some (r1, r2, r3, r4, r5, r6, r7) := H
             have A55 := aM A550
             clear A550
             have H' := aM H
             clear H
             go_wp2_with (first | ((with_reducible refine gate_callee (f := 48) rfl ?_); refine gL (some 28) rfl rfl Try.func48 (by kernel_rfl) rfl #[.slice (some ad245) l0.length c0, .int .i64 1] rfl ?_; (with_reducible refine (spec_WordAt.calls _ _ l0 1 t257 t258 _ ?side1 ?side2 A45.out).mono ?_); (case side1 => exact cB HR0.out HB.out); (case side2 => exact HC0.out); rintro e w' ⟨rfl, ⟨nd, rfl⟩⟩; refine ⟨_, rfl, ?_⟩; (try (rw [drewN_self wc]; generalize hq_ : World.drewN wc _ = wc; have n0_ : Aside0 (wc.heap[gb242]? = some (.cells #[.int .i64 0, .int .i64 0, .int .i64 0, .int .i64 0, .slice none 0 0, .slice none 0 0] 29 (0, 0))) := ⟨by rw [← hq_]; exact (kA BK242.out)⟩; have n1_ : Aside0 (wc.heap[gb246]? = some (.cells #[.int .i64 (wrap64 (Go.bits .and .u8 (rd l0 0) 127)), .int .i64 0, .int .i64 0, .int .i64 0, .slice none 0 0, .slice none 0 0] 29 (0, 0))) := ⟨by rw [← hq_]; exact (kA BK246.out)⟩; have n2_ : Aside0 (Below w.heap.size w wc) := ⟨by rw [← hq_]; exact (bS HB.out)⟩; clear BK242 BK246 HB hq_; have BK242 := n0_; have BK246 := n1_; have HB := n2_; clear n0_ n1_ n2_; have hcugb242_0 : wc.cell? ⟨gb242, 0, none⟩ = some (.int .i64 0) := (blk_cell BK242.out 0).trans rfl; have hfugb242_0 := blk_frozen BK242.out 0; have hcugb242_1 : wc.cell? ⟨gb242, 1, none⟩ = some (.int .i64 0) := (blk_cell BK242.out 1).trans rfl; have hfugb242_1 := blk_frozen BK242.out 1; have hcugb242_2 : wc.cell? ⟨gb242, 2, none⟩ = some (.int .i64 0) := (blk_cell BK242.out 2).trans rfl; have hfugb242_2 := blk_frozen BK242.out 2; have hcugb242_3 : wc.cell? ⟨gb242, 3, none⟩ = some (.int .i64 0) := (blk_cell BK242.out 3).trans rfl; have hfugb242_3 := blk_frozen BK242.out 3; have hcugb242_4 : wc.cell? ⟨gb242, 4, none⟩ = some (.slice none 0 0) := (blk_cell BK242.out 4).trans rfl; have hfugb242_4 := blk_frozen BK242.out 4; have hcugb242_5 : wc.cell? ⟨gb242, 5, none⟩ = some (.slice none 0 0) := (blk_cell BK242.out 5).trans rfl; have hfugb242_5 := blk_frozen BK242.out 5; have hcugb246_0 : wc.cell? ⟨gb246, 0, none⟩ = some (.int .i64 (wrap64 (Go.bits .and .u8 (rd l0 0) 127))) := (blk_cell BK246.out 0).trans rfl; have hfugb246_0 := blk_frozen BK246.out 0; have hcugb246_1 : wc.cell? ⟨gb246, 1, none⟩ = some (.int .i64 0) := (blk_cell BK246.out 1).trans rfl; have hfugb246_1 := blk_frozen BK246.out 1; have hcugb246_2 : wc.cell? ⟨gb246, 2, none⟩ = some (.int .i64 0) := (blk_cell BK246.out 2).trans rfl; have hfugb246_2 := blk_frozen BK246.out 2; have hcugb246_3 : wc.cell? ⟨gb246, 3, none⟩ = some (.int .i64 0) := (blk_cell BK246.out 3).trans rfl; have hfugb246_3 := blk_frozen BK246.out 3; have hcugb246_4 : wc.cell? ⟨gb246, 4, none⟩ = some (.slice none 0 0) := (blk_cell BK246.out 4).trans rfl; have hfugb246_4 := blk_frozen BK246.out 4; have hcugb246_5 : wc.cell? ⟨gb246, 5, none⟩ = some (.slice none 0 0) := (blk_cell BK246.out 5).trans rfl; have hfugb246_5 := blk_frozen BK246.out 5)); have hnb56 := NB246_242.out; have hnc56 := NB242_246.out; obtain ⟨hcz57_0, hfz57_0, hcz57_1, hfz57_1, hcz57_2, hfz57_2, hcz57_3, hfz57_3, hcz57_4, hfz57_4, hcz57_5, hfz57_5⟩ := bk6 BK246.out) | ((with_reducible refine gate_callee (f := 48) rfl ?_); refine gL (some 34) rfl rfl Try.func48 (by kernel_rfl) rfl #[.slice (some ad245) l0.length c0, .int .i64 3] rfl ?_; (with_reducible refine (spec_WordAt.calls _ _ l0 3 t259 t260 _ ?side1 ?side2 A46.out).mono ?_); (case side1 => exact Kd.C_below HR0.out (bS HB.out)); (case side2 => exact HC0.out); rintro e w' ⟨rfl, ⟨nd, rfl⟩⟩; refine ⟨_, rfl, ?_⟩) | ((with_reducible refine gate_callee (f := 47) rfl ?_); refine gL (some 51) rfl rfl Try.func47 (by kernel_rfl) rfl #[.slice (some ad245) l0.length c0, .int .i64 3] rfl ?_; (with_reducible refine (spec_l3GetWords.calls kj30 _ _ l0 3 t264 _ ?side1 ?side2 A55.out).mono ?_); (case side1 => exact Kd.C_below HR0.out (bS HB.out)); (case side2 => exact HC0.out); rintro e w58 ⟨v265, rfl, ho0, hb⟩; refine ⟨_, rfl, ?_⟩; have _ := aM (Kd.R_lower ho0 (below_size (bS HB.out))); have _ := aM (blk_below (kF1 BK242.out NB242_246.out) hb); have _ := aM (blk_below (g := gb246) (o := .cells #[.int .i64 (wrap64 (Go.bits .and .u8 (rd l0 0) 127)), .int .i64 0, .int .i64 t257, .int .i64 0, .slice none 0 0, .slice none 0 0] 29 (0, 0)) (kX BK246.out) hb); have _ := aM (below_step (bS HB.out) hb); clear BK242 BK246 HB; rename_i HO266 BK242 BK246 HB; (try clear hb); (try clear ho0); obtain ⟨Ao59, co59, eo59⟩ := Kd.R_slice HO266.out; subst eo59; obtain ⟨hcz60_0, hfz60_0, hcz60_1, hfz60_1, hcz60_2, hfz60_2, hcz60_3, hfz60_3, hcz60_4, hfz60_4, hcz60_5, hfz60_5⟩ := bk6 BK246.out))
             go_meet
             case rel => exact ⟨_, (0), (t257), (0), (t264), (([] : List Bool)), (.slice Ao59 t264.length co59), (.slice none 0 0), H', ⟨by have := HJ1.out; have := HJ30.out; first | omega | exact Nat.le_refl _⟩, ⟨by (with_reducible repeat (first | apply Kd.R_alloc | apply Kd.R_drewN | apply Kd.R_drew)); exact Kd.R_mono (Kd.R_far (p := ⟨gb246, 4, none⟩) (Kd.R_types HO266.out BK246.out (by decide)) (fun _ hk => hk.2) (.slice Ao59 t264.length co59)) (fun _ hk => trivial)⟩, ⟨by first | exact Kd.R_nil _ _ _ _ _ | exact Kd.N_nil _ _ _ _ _ | exact Kd.V_nil _ _ _ _ _ | exact Kd.Q_nil _ _ _ _ _ | exact Kd.S_nil _ _ _ _ _⟩, ⟨kX BK242.out⟩, ⟨kX BK246.out⟩, ⟨bS HB.out⟩⟩
            ·rw [if_neg c54] at H
             have c54b0 : ((wrap64 (Go.bits .and .u8 (rd l0 0) 127)) == 6) = false := beq_eq_false_iff_ne.mpr c54
             have c54b1 : ((wrap64 (Go.bits .and .u8 (rd l0 0) 127)) != 6) = true := bne_iff_ne.mpr c54
             by_cases c61 : (wrap64 (Go.bits .and .u8 (rd l0 0) 127)) = 22
             ·rw [if_pos c61] at H
              have c61b0 : ((wrap64 (Go.bits .and .u8 (rd l0 0) 127)) == 22) = true := beq_iff_eq.mpr c61
              have c61b1 : ((wrap64 (Go.bits .and .u8 (rd l0 0) 127)) != 22) = false := bne_eq_false_iff_eq.mpr c61
              clear c61
              replace H := Option.bind_eq_some_iff.mp H
              obtain ⟨t267, A620, H⟩ := H
              replace H : (spec_GetResp.j2 kj30 l0 (wrap64 (Go.bits .and .u8 (rd l0 0) 127)) 0 t257 0 t267 ([] : List Bool)) = some (r1, r2, r3, r4, r5, r6, r7) := H
              have A62 := aM A620
              clear A620
              have H' := aM H
              clear H
              go_wp2_with (first | ((with_reducible refine gate_callee (f := 48) rfl ?_); refine gL (some 28) rfl rfl Try.func48 (by kernel_rfl) rfl #[.slice (some ad245) l0.length c0, .int .i64 1] rfl ?_; (with_reducible refine (spec_WordAt.calls _ _ l0 1 t257 t258 _ ?side1 ?side2 A45.out).mono ?_); (case side1 => exact cB HR0.out HB.out); (case side2 => exact HC0.out); rintro e w' ⟨rfl, ⟨nd, rfl⟩⟩; refine ⟨_, rfl, ?_⟩; (try (rw [drewN_self wc]; generalize hq_ : World.drewN wc _ = wc; have n0_ : Aside0 (wc.heap[gb242]? = some (.cells #[.int .i64 0, .int .i64 0, .int .i64 0, .int .i64 0, .slice none 0 0, .slice none 0 0] 29 (0, 0))) := ⟨by rw [← hq_]; exact (kA BK242.out)⟩; have n1_ : Aside0 (wc.heap[gb246]? = some (.cells #[.int .i64 (wrap64 (Go.bits .and .u8 (rd l0 0) 127)), .int .i64 0, .int .i64 0, .int .i64 0, .slice none 0 0, .slice none 0 0] 29 (0, 0))) := ⟨by rw [← hq_]; exact (kA BK246.out)⟩; have n2_ : Aside0 (Below w.heap.size w wc) := ⟨by rw [← hq_]; exact (bS HB.out)⟩; clear BK242 BK246 HB hq_; have BK242 := n0_; have BK246 := n1_; have HB := n2_; clear n0_ n1_ n2_; have hcugb242_0 : wc.cell? ⟨gb242, 0, none⟩ = some (.int .i64 0) := (blk_cell BK242.out 0).trans rfl; have hfugb242_0 := blk_frozen BK242.out 0; have hcugb242_1 : wc.cell? ⟨gb242, 1, none⟩ = some (.int .i64 0) := (blk_cell BK242.out 1).trans rfl; have hfugb242_1 := blk_frozen BK242.out 1; have hcugb242_2 : wc.cell? ⟨gb242, 2, none⟩ = some (.int .i64 0) := (blk_cell BK242.out 2).trans rfl; have hfugb242_2 := blk_frozen BK242.out 2; have hcugb242_3 : wc.cell? ⟨gb242, 3, none⟩ = some (.int .i64 0) := (blk_cell BK242.out 3).trans rfl; have hfugb242_3 := blk_frozen BK242.out 3; have hcugb242_4 : wc.cell? ⟨gb242, 4, none⟩ = some (.slice none 0 0) := (blk_cell BK242.out 4).trans rfl; have hfugb242_4 := blk_frozen BK242.out 4; have hcugb242_5 : wc.cell? ⟨gb242, 5, none⟩ = some (.slice none 0 0) := (blk_cell BK242.out 5).trans rfl; have hfugb242_5 := blk_frozen BK242.out 5; have hcugb246_0 : wc.cell? ⟨gb246, 0, none⟩ = some (.int .i64 (wrap64 (Go.bits .and .u8 (rd l0 0) 127))) := (blk_cell BK246.out 0).trans rfl; have hfugb246_0 := blk_frozen BK246.out 0; have hcugb246_1 : wc.cell? ⟨gb246, 1, none⟩ = some (.int .i64 0) := (blk_cell BK246.out 1).trans rfl; have hfugb246_1 := blk_frozen BK246.out 1; have hcugb246_2 : wc.cell? ⟨gb246, 2, none⟩ = some (.int .i64 0) := (blk_cell BK246.out 2).trans rfl; have hfugb246_2 := blk_frozen BK246.out 2; have hcugb246_3 : wc.cell? ⟨gb246, 3, none⟩ = some (.int .i64 0) := (blk_cell BK246.out 3).trans rfl; have hfugb246_3 := blk_frozen BK246.out 3; have hcugb246_4 : wc.cell? ⟨gb246, 4, none⟩ = some (.slice none 0 0) := (blk_cell BK246.out 4).trans rfl; have hfugb246_4 := blk_frozen BK246.out 4; have hcugb246_5 : wc.cell? ⟨gb246, 5, none⟩ = some (.slice none 0 0) := (blk_cell BK246.out 5).trans rfl; have hfugb246_5 := blk_frozen BK246.out 5)); have hnb63 := NB246_242.out; have hnc63 := NB242_246.out; obtain ⟨hcz64_0, hfz64_0, hcz64_1, hfz64_1, hcz64_2, hfz64_2, hcz64_3, hfz64_3, hcz64_4, hfz64_4, hcz64_5, hfz64_5⟩ := bk6 BK246.out) | ((with_reducible refine gate_callee (f := 48) rfl ?_); refine gL (some 34) rfl rfl Try.func48 (by kernel_rfl) rfl #[.slice (some ad245) l0.length c0, .int .i64 3] rfl ?_; (with_reducible refine (spec_WordAt.calls _ _ l0 3 t259 t260 _ ?side1 ?side2 A46.out).mono ?_); (case side1 => exact Kd.C_below HR0.out (bS HB.out)); (case side2 => exact HC0.out); rintro e w' ⟨rfl, ⟨nd, rfl⟩⟩; refine ⟨_, rfl, ?_⟩) | ((with_reducible refine gate_callee (f := 47) rfl ?_); refine gL (some 51) rfl rfl Try.func47 (by kernel_rfl) rfl #[.slice (some ad245) l0.length c0, .int .i64 3] rfl ?_; (with_reducible refine (spec_l3GetWords.calls kj30 _ _ l0 3 t267 _ ?side1 ?side2 A62.out).mono ?_); (case side1 => exact Kd.C_below HR0.out (bS HB.out)); (case side2 => exact HC0.out); rintro e w65 ⟨v268, rfl, ho0, hb⟩; refine ⟨_, rfl, ?_⟩; have _ := aM (Kd.R_lower ho0 (below_size (bS HB.out))); have _ := aM (blk_below (kF1 BK242.out NB242_246.out) hb); have _ := aM (blk_below (g := gb246) (o := .cells #[.int .i64 (wrap64 (Go.bits .and .u8 (rd l0 0) 127)), .int .i64 0, .int .i64 t257, .int .i64 0, .slice none 0 0, .slice none 0 0] 29 (0, 0)) (kX BK246.out) hb); have _ := aM (below_step (bS HB.out) hb); clear BK242 BK246 HB; rename_i HO269 BK242 BK246 HB; (try clear hb); (try clear ho0); obtain ⟨Ao66, co66, eo66⟩ := Kd.R_slice HO269.out; subst eo66; obtain ⟨hcz67_0, hfz67_0, hcz67_1, hfz67_1, hcz67_2, hfz67_2, hcz67_3, hfz67_3, hcz67_4, hfz67_4, hcz67_5, hfz67_5⟩ := bk6 BK246.out))
              go_meet
              case rel => exact ⟨_, (0), (t257), (0), (t267), (([] : List Bool)), (.slice Ao66 t267.length co66), (.slice none 0 0), H', ⟨by have := HJ1.out; have := HJ30.out; first | omega | exact Nat.le_refl _⟩, ⟨by (with_reducible repeat (first | apply Kd.R_alloc | apply Kd.R_drewN | apply Kd.R_drew)); exact Kd.R_mono (Kd.R_far (p := ⟨gb246, 4, none⟩) (Kd.R_types HO269.out BK246.out (by decide)) (fun _ hk => hk.2) (.slice Ao66 t267.length co66)) (fun _ hk => trivial)⟩, ⟨by first | exact Kd.R_nil _ _ _ _ _ | exact Kd.N_nil _ _ _ _ _ | exact Kd.V_nil _ _ _ _ _ | exact Kd.Q_nil _ _ _ _ _ | exact Kd.S_nil _ _ _ _ _⟩, ⟨kX BK242.out⟩, ⟨kX BK246.out⟩, ⟨bS HB.out⟩⟩
             ·rw [if_neg c61] at H
              have c61b0 : ((wrap64 (Go.bits .and .u8 (rd l0 0) 127)) == 22) = false := beq_eq_false_iff_ne.mpr c61
              have c61b1 : ((wrap64 (Go.bits .and .u8 (rd l0 0) 127)) != 22) = true := bne_iff_ne.mpr c61
              have H' := aM H
              clear H
              go_wp2_with (first | ((with_reducible refine gate_callee (f := 48) rfl ?_); refine gL (some 28) rfl rfl Try.func48 (by kernel_rfl) rfl #[.slice (some ad245) l0.length c0, .int .i64 1] rfl ?_; (with_reducible refine (spec_WordAt.calls _ _ l0 1 t257 t258 _ ?side1 ?side2 A45.out).mono ?_); (case side1 => exact cB HR0.out HB.out); (case side2 => exact HC0.out); rintro e w' ⟨rfl, ⟨nd, rfl⟩⟩; refine ⟨_, rfl, ?_⟩; (try (rw [drewN_self wc]; generalize hq_ : World.drewN wc _ = wc; have n0_ : Aside0 (wc.heap[gb242]? = some (.cells #[.int .i64 0, .int .i64 0, .int .i64 0, .int .i64 0, .slice none 0 0, .slice none 0 0] 29 (0, 0))) := ⟨by rw [← hq_]; exact (kA BK242.out)⟩; have n1_ : Aside0 (wc.heap[gb246]? = some (.cells #[.int .i64 (wrap64 (Go.bits .and .u8 (rd l0 0) 127)), .int .i64 0, .int .i64 0, .int .i64 0, .slice none 0 0, .slice none 0 0] 29 (0, 0))) := ⟨by rw [← hq_]; exact (kA BK246.out)⟩; have n2_ : Aside0 (Below w.heap.size w wc) := ⟨by rw [← hq_]; exact (bS HB.out)⟩; clear BK242 BK246 HB hq_; have BK242 := n0_; have BK246 := n1_; have HB := n2_; clear n0_ n1_ n2_; have hcugb242_0 : wc.cell? ⟨gb242, 0, none⟩ = some (.int .i64 0) := (blk_cell BK242.out 0).trans rfl; have hfugb242_0 := blk_frozen BK242.out 0; have hcugb242_1 : wc.cell? ⟨gb242, 1, none⟩ = some (.int .i64 0) := (blk_cell BK242.out 1).trans rfl; have hfugb242_1 := blk_frozen BK242.out 1; have hcugb242_2 : wc.cell? ⟨gb242, 2, none⟩ = some (.int .i64 0) := (blk_cell BK242.out 2).trans rfl; have hfugb242_2 := blk_frozen BK242.out 2; have hcugb242_3 : wc.cell? ⟨gb242, 3, none⟩ = some (.int .i64 0) := (blk_cell BK242.out 3).trans rfl; have hfugb242_3 := blk_frozen BK242.out 3; have hcugb242_4 : wc.cell? ⟨gb242, 4, none⟩ = some (.slice none 0 0) := (blk_cell BK242.out 4).trans rfl; have hfugb242_4 := blk_frozen BK242.out 4; have hcugb242_5 : wc.cell? ⟨gb242, 5, none⟩ = some (.slice none 0 0) := (blk_cell BK242.out 5).trans rfl; have hfugb242_5 := blk_frozen BK242.out 5; have hcugb246_0 : wc.cell? ⟨gb246, 0, none⟩ = some (.int .i64 (wrap64 (Go.bits .and .u8 (rd l0 0) 127))) := (blk_cell BK246.out 0).trans rfl; have hfugb246_0 := blk_frozen BK246.out 0; have hcugb246_1 : wc.cell? ⟨gb246, 1, none⟩ = some (.int .i64 0) := (blk_cell BK246.out 1).trans rfl; have hfugb246_1 := blk_frozen BK246.out 1; have hcugb246_2 : wc.cell? ⟨gb246, 2, none⟩ = some (.int .i64 0) := (blk_cell BK246.out 2).trans rfl; have hfugb246_2 := blk_frozen BK246.out 2; have hcugb246_3 : wc.cell? ⟨gb246, 3, none⟩ = some (.int .i64 0) := (blk_cell BK246.out 3).trans rfl; have hfugb246_3 := blk_frozen BK246.out 3; have hcugb246_4 : wc.cell? ⟨gb246, 4, none⟩ = some (.slice none 0 0) := (blk_cell BK246.out 4).trans rfl; have hfugb246_4 := blk_frozen BK246.out 4; have hcugb246_5 : wc.cell? ⟨gb246, 5, none⟩ = some (.slice none 0 0) := (blk_cell BK246.out 5).trans rfl; have hfugb246_5 := blk_frozen BK246.out 5)); have hnb68 := NB246_242.out; have hnc68 := NB242_246.out; obtain ⟨hcz69_0, hfz69_0, hcz69_1, hfz69_1, hcz69_2, hfz69_2, hcz69_3, hfz69_3, hcz69_4, hfz69_4, hcz69_5, hfz69_5⟩ := bk6 BK246.out) | ((with_reducible refine gate_callee (f := 48) rfl ?_); refine gL (some 34) rfl rfl Try.func48 (by kernel_rfl) rfl #[.slice (some ad245) l0.length c0, .int .i64 3] rfl ?_; (with_reducible refine (spec_WordAt.calls _ _ l0 3 t259 t260 _ ?side1 ?side2 A46.out).mono ?_); (case side1 => exact Kd.C_below HR0.out (bS HB.out)); (case side2 => exact HC0.out); rintro e w' ⟨rfl, ⟨nd, rfl⟩⟩; refine ⟨_, rfl, ?_⟩))
              go_meet
              case rel => exact ⟨_, (0), (t257), (t259), (([] : List Int)), (([] : List Bool)), (.slice none 0 0), (.slice none 0 0), H', ⟨by have := HJ1.out; have := HJ30.out; first | omega | exact Nat.le_refl _⟩, ⟨by first | exact Kd.R_nil _ _ _ _ _ | exact Kd.N_nil _ _ _ _ _ | exact Kd.V_nil _ _ _ _ _ | exact Kd.Q_nil _ _ _ _ _ | exact Kd.S_nil _ _ _ _ _⟩, ⟨by first | exact Kd.R_nil _ _ _ _ _ | exact Kd.N_nil _ _ _ _ _ | exact Kd.V_nil _ _ _ _ _ | exact Kd.Q_nil _ _ _ _ _ | exact Kd.S_nil _ _ _ _ _⟩, ⟨kX BK242.out⟩, ⟨kX BK246.out⟩, ⟨bS HB.out⟩⟩
     case rest =>
      clear HC10
      try clear c1
      try clear p2
      try clear q2
      try clear hx2
      try clear qi2
      try clear c4
      try clear c4b0
      try clear c4b1
      try clear c4b2
      try clear c5
      try clear c5b0
      try clear c5b1
      try clear p6
      try clear c7
      try clear c9
      try clear c9b0
      try clear c9b1
      try clear hcz13_0
      try clear hcz13_1
      try clear hcz13_2
      try clear hcz13_3
      try clear hcz13_4
      try clear hcz13_5
      try clear hcz8_0
      try clear hcz8_1
      try clear hcz8_2
      try clear hcz8_3
      try clear hcz8_4
      try clear hcz8_5
      try clear hfz13_0
      try clear hfz13_1
      try clear hfz13_2
      try clear hfz13_3
      try clear hfz13_4
      try clear hfz13_5
      try clear hfz8_0
      try clear hfz8_1
      try clear hfz8_2
      try clear hfz8_3
      try clear hfz8_4
      try clear hfz8_5
      try clear hx243_0
      try clear hx245_0
      try clear p2
      try clear p243
      try clear p245
      try clear p6
      try clear q2
      try clear q243
      try clear q245
      obtain ⟨kq, x247001_9, x247002_9, x247003_9, x247004_9, x247005_9, u247004, u247005, HA, HJ9, HO_247004, HO_247005, BK242, BK246, HB⟩ := hcut
      cases kq with
      | zero => exact absurd HA.out (by simp [spec_GetResp.j2])
      | succ kj9 =>
       have H := HA.out
       clear HA
       simp only [spec_GetResp.j2] at H
       replace H := Option.bind_eq_some_iff.mp H
       obtain ⟨t270, A700, H⟩ := H
       replace H : (if t270 = true then ((spec_PutResp.f kj9 (wrap64 (Go.bits .and .u8 (rd l0 0) 127)) x247001_9 x247002_9 x247003_9 x247004_9 x247005_9).bind fun t271 => ((spec_l3Same.f kj9 t271 l0).bind fun t274 => (if t274 = true then (some ((wrap64 (Go.bits .and .u8 (rd l0 0) 127)), x247001_9, x247002_9, x247003_9, x247004_9, x247005_9, 0)) else (some (0, 0, 0, 0, ([] : List Int), ([] : List Bool), 3))))) else (some (0, 0, 0, 0, ([] : List Int), ([] : List Bool), 3))) = some (r1, r2, r3, r4, r5, r6, r7) := H
       have A70 := aM A700
       clear A700
       by_cases c71 : t270 = true
       ·subst c71
        have H1 : ((spec_PutResp.f kj9 (wrap64 (Go.bits .and .u8 (rd l0 0) 127)) x247001_9 x247002_9 x247003_9 x247004_9 x247005_9).bind fun t271 => ((spec_l3Same.f kj9 t271 l0).bind fun t274 => (if t274 = true then (some ((wrap64 (Go.bits .and .u8 (rd l0 0) 127)), x247001_9, x247002_9, x247003_9, x247004_9, x247005_9, 0)) else (some (0, 0, 0, 0, ([] : List Int), ([] : List Bool), 3))))) = some (r1, r2, r3, r4, r5, r6, r7) := by rw [if_pos rfl] at H; exact H
        clear H
        have H := H1
        clear H1
        replace H := Option.bind_eq_some_iff.mp H
        obtain ⟨t271, A720, H⟩ := H
        replace H : ((spec_l3Same.f kj9 t271 l0).bind fun t274 => (if t274 = true then (some ((wrap64 (Go.bits .and .u8 (rd l0 0) 127)), x247001_9, x247002_9, x247003_9, x247004_9, x247005_9, 0)) else (some (0, 0, 0, 0, ([] : List Int), ([] : List Bool), 3)))) = some (r1, r2, r3, r4, r5, r6, r7) := H
        have A72 := aM A720
        clear A720
        replace H := Option.bind_eq_some_iff.mp H
        obtain ⟨t274, A730, H⟩ := H
        replace H : (if t274 = true then (some ((wrap64 (Go.bits .and .u8 (rd l0 0) 127)), x247001_9, x247002_9, x247003_9, x247004_9, x247005_9, 0)) else (some (0, 0, 0, 0, ([] : List Int), ([] : List Bool), 3))) = some (r1, r2, r3, r4, r5, r6, r7) := H
        have A73 := aM A730
        clear A730
        by_cases c74 : t274 = true
        ·subst c74
         have H1 : (some ((wrap64 (Go.bits .and .u8 (rd l0 0) 127)), x247001_9, x247002_9, x247003_9, x247004_9, x247005_9, 0)) = some (r1, r2, r3, r4, r5, r6, r7) := by rw [if_pos rfl] at H; exact H
         clear H
         have H := H1
         clear H1
         simp only [Option.some.injEq, Prod.mk.injEq] at H
         obtain ⟨rfl, rfl, rfl, rfl, rfl, rfl, rfl⟩ := H
         have hnb75 := NB246_242.out
         have hnc75 := NB242_246.out
         obtain ⟨hcz76_0, hfz76_0, hcz76_1, hfz76_1, hcz76_2, hfz76_2, hcz76_3, hfz76_3, hcz76_4, hfz76_4, hcz76_5, hfz76_5⟩ := bk6 BK246.out
         obtain ⟨Ao77, co77, eo77⟩ := Kd.R_slice HO_247004.out
         subst eo77
         obtain ⟨Ao78, co78, eo78⟩ := Kd.R_slice HO_247005.out
         subst eo78
         go_wp2_with (first | ((with_reducible refine gate_callee (f := 22) rfl ?_); refine gL (some 97) rfl rfl Try.func22 (by kernel_rfl) rfl #[.agg #[.int .i64 (wrap64 (Go.bits .and .u8 (rd l0 0) 127)), .int .i64 x247001_9, .int .i64 x247002_9, .int .i64 x247003_9, .slice Ao77 x247004_9.length co77, .slice Ao78 x247005_9.length co78]] rfl ?_; (with_reducible refine (spec_RespOk.calls kj9 (wrap64 (Go.bits .and .u8 (rd l0 0) 127)) x247001_9 x247002_9 x247003_9 _ _ x247004_9 _ _ x247005_9 true _ ?side1 ?side2 ?side3 ?side4 A70.out).mono ?_); (case side1 => exact cR HO_247004.out); (case side2 => exact (Kd.R_reads' HO_247004.out).2.1); (case side3 => exact cR HO_247005.out); (case side4 => exact (Kd.R_reads' HO_247005.out).2.1); rintro e w79 ⟨rfl, hb⟩; refine ⟨_, rfl, ?_⟩; have _ := aM (rB HO_247004.out hb); have _ := aM (rB HO_247005.out hb); have _ := aM (kB BK242.out hb); have _ := aM (kB BK246.out hb); have _ := aM (below_step (bS HB.out) hb); clear HO_247004 HO_247005 BK242 BK246 HB; rename_i HO_247004 HO_247005 BK242 BK246 HB; (try clear hb); obtain ⟨hcz80_0, hfz80_0, hcz80_1, hfz80_1, hcz80_2, hfz80_2, hcz80_3, hfz80_3, hcz80_4, hfz80_4, hcz80_5, hfz80_5⟩ := bk6 BK246.out) | (go_at_call 8; (with_reducible refine (spec_PutResp.calls kj9 (wrap64 (Go.bits .and .u8 (rd l0 0) 127)) x247001_9 x247002_9 x247003_9 _ _ x247004_9 _ _ x247005_9 t271 _ ?side1 ?side2 ?side3 ?side4 A72.out).mono ?_); (case side1 => exact cR HO_247004.out); (case side2 => exact (Kd.R_reads' HO_247004.out).2.1); (case side3 => exact cR HO_247005.out); (case side4 => exact (Kd.R_reads' HO_247005.out).2.1); rintro e w81 ⟨v272, rfl, ho0, hb⟩; have _ := aM (rB HO_247004.out hb); have _ := aM (rB HO_247005.out hb); have _ := aM (Kd.V_lower (Kd.V_mono (ok' := fun k_ => some k_ ≠ (.slice Ao77 x247004_9.length co77 : Value).ownBlock ∧ some k_ ≠ (.slice Ao78 x247005_9.length co78 : Value).ownBlock ∧ k_ ≠ gb242 ∧ k_ ≠ gb246) ho0 (fun k_ hk_ => ⟨(Kd.fresh' (Kd.R_lt (rA HO_247004.out)) k_ hk_), (Kd.fresh' (Kd.R_lt (rA HO_247005.out)) k_ hk_), (Kd.freshB (g := gb242) (o := .cells #[.int .i64 0, .int .i64 0, .int .i64 0, .int .i64 0, .slice none 0 0, .slice none 0 0] 29 (0, 0)) (kA BK242.out) k_ hk_), (Kd.freshB (g := gb246) (o := .cells #[.int .i64 (wrap64 (Go.bits .and .u8 (rd l0 0) 127)), .int .i64 x247001_9, .int .i64 x247002_9, .int .i64 x247003_9, .slice Ao77 x247004_9.length co77, .slice Ao78 x247005_9.length co78] 29 (0, 0)) (kA BK246.out) k_ hk_)⟩)) (below_size (bS HB.out))); have _ := aM (kB BK242.out hb); have _ := aM (kB BK246.out hb); have _ := aM (below_step (bS HB.out) hb); clear HO_247004 HO_247005 BK242 BK246 HB; rename_i HO_247004 HO_247005 HO273 BK242 BK246 HB; (try clear hb); (try clear ho0); obtain ⟨Ao82, co82, eo82⟩ := Kd.V_slice HO273.out; subst eo82) | (go_at_call 49; (with_reducible refine (spec_l3Same.calls kj9 _ _ t271 _ _ l0 true _ ?side1 ?side2 ?side3 ?side4 A73.out).mono ?_); (case side1 => repeat (first | exact (Kd.V_reads' HO273.out).2.2 | (with_reducible refine Kd.C_alloc ?_ _) | (with_reducible refine Kd.C_drewN ?_ _) | (with_reducible refine Kd.C_drew ?_))); (case side2 => exact (Kd.V_reads' HO273.out).2.1); (case side3 => exact cB HR0.out HB.out); (case side4 => exact HC0.out); rintro e w' ⟨rfl, ⟨nd, rfl⟩⟩; (try (rw [drewN_self w81]; generalize hq_ : World.drewN w81 _ = w81; have n0_ : Aside0 (Kd.V (Kd.int .u8) 5 w81 w.heap.size (fun k_ => some k_ ≠ (.slice Ao77 x247004_9.length co77 : Value).ownBlock ∧ some k_ ≠ (.slice Ao78 x247005_9.length co78 : Value).ownBlock ∧ k_ ≠ gb242 ∧ k_ ≠ gb246) (.slice Ao82 t271.length co82) t271) := ⟨by rw [← hq_]; exact (by (with_reducible repeat (first | apply Kd.V_alloc | apply Kd.V_drewN | apply Kd.V_drew)); exact HO273.out)⟩; have n1_ : Aside0 (Kd.R (Kd.int .i64) 3 w81 w.heap.size (fun _ => True) (.slice Ao77 x247004_9.length co77) x247004_9) := ⟨by rw [← hq_]; exact (rA HO_247004.out)⟩; have n2_ : Aside0 (Kd.R Kd.bool 4 w81 w.heap.size (fun _ => True) (.slice Ao78 x247005_9.length co78) x247005_9) := ⟨by rw [← hq_]; exact (rA HO_247005.out)⟩; have n3_ : Aside0 (w81.heap[gb242]? = some (.cells #[.int .i64 0, .int .i64 0, .int .i64 0, .int .i64 0, .slice none 0 0, .slice none 0 0] 29 (0, 0))) := ⟨by rw [← hq_]; exact (kA BK242.out)⟩; have n4_ : Aside0 (w81.heap[gb246]? = some (.cells #[.int .i64 (wrap64 (Go.bits .and .u8 (rd l0 0) 127)), .int .i64 x247001_9, .int .i64 x247002_9, .int .i64 x247003_9, .slice Ao77 x247004_9.length co77, .slice Ao78 x247005_9.length co78] 29 (0, 0))) := ⟨by rw [← hq_]; exact (kA BK246.out)⟩; have n5_ : Aside0 (Below w.heap.size w w81) := ⟨by rw [← hq_]; exact (bS HB.out)⟩; clear HO273 HO_247004 HO_247005 BK242 BK246 HB hq_; have HO273 := n0_; have HO_247004 := n1_; have HO_247005 := n2_; have BK242 := n3_; have BK246 := n4_; have HB := n5_; clear n0_ n1_ n2_ n3_ n4_ n5_; have hcugb242_0 : w81.cell? ⟨gb242, 0, none⟩ = some (.int .i64 0) := (blk_cell BK242.out 0).trans rfl; have hfugb242_0 := blk_frozen BK242.out 0; have hcugb242_1 : w81.cell? ⟨gb242, 1, none⟩ = some (.int .i64 0) := (blk_cell BK242.out 1).trans rfl; have hfugb242_1 := blk_frozen BK242.out 1; have hcugb242_2 : w81.cell? ⟨gb242, 2, none⟩ = some (.int .i64 0) := (blk_cell BK242.out 2).trans rfl; have hfugb242_2 := blk_frozen BK242.out 2; have hcugb242_3 : w81.cell? ⟨gb242, 3, none⟩ = some (.int .i64 0) := (blk_cell BK242.out 3).trans rfl; have hfugb242_3 := blk_frozen BK242.out 3; have hcugb242_4 : w81.cell? ⟨gb242, 4, none⟩ = some (.slice none 0 0) := (blk_cell BK242.out 4).trans rfl; have hfugb242_4 := blk_frozen BK242.out 4; have hcugb242_5 : w81.cell? ⟨gb242, 5, none⟩ = some (.slice none 0 0) := (blk_cell BK242.out 5).trans rfl; have hfugb242_5 := blk_frozen BK242.out 5; have hcugb246_0 : w81.cell? ⟨gb246, 0, none⟩ = some (.int .i64 (wrap64 (Go.bits .and .u8 (rd l0 0) 127))) := (blk_cell BK246.out 0).trans rfl; have hfugb246_0 := blk_frozen BK246.out 0; have hcugb246_1 : w81.cell? ⟨gb246, 1, none⟩ = some (.int .i64 x247001_9) := (blk_cell BK246.out 1).trans rfl; have hfugb246_1 := blk_frozen BK246.out 1; have hcugb246_2 : w81.cell? ⟨gb246, 2, none⟩ = some (.int .i64 x247002_9) := (blk_cell BK246.out 2).trans rfl; have hfugb246_2 := blk_frozen BK246.out 2; have hcugb246_3 : w81.cell? ⟨gb246, 3, none⟩ = some (.int .i64 x247003_9) := (blk_cell BK246.out 3).trans rfl; have hfugb246_3 := blk_frozen BK246.out 3; have hcugb246_4 : w81.cell? ⟨gb246, 4, none⟩ = some (.slice Ao77 x247004_9.length co77) := (blk_cell BK246.out 4).trans rfl; have hfugb246_4 := blk_frozen BK246.out 4; have hcugb246_5 : w81.cell? ⟨gb246, 5, none⟩ = some (.slice Ao78 x247005_9.length co78) := (blk_cell BK246.out 5).trans rfl; have hfugb246_5 := blk_frozen BK246.out 5)); obtain ⟨hcz83_0, hfz83_0, hcz83_1, hfz83_1, hcz83_2, hfz83_2, hcz83_3, hfz83_3, hcz83_4, hfz83_4, hcz83_5, hfz83_5⟩ := bk6 BK246.out; obtain ⟨hcz84_0, hfz84_0, hcz84_1, hfz84_1, hcz84_2, hfz84_2, hcz84_3, hfz84_3, hcz84_4, hfz84_4, hcz84_5, hfz84_5⟩ := bk6 BK242.out))
         refine bodyPost_ret (results_ct rfl _ _ gb242 29 #[.int .i64 (wrap64 (Go.bits .and .u8 (rd l0 0) 127)), .int .i64 x247001_9, .int .i64 x247002_9, .int .i64 x247003_9, .slice Ao77 x247004_9.length co77, .slice Ao78 x247005_9.length co78] (0, 0) _ rfl (kP6 BK242.out) Try.underlying29 rfl (by kernel_rfl)) rfl ?_
         exact ⟨_, _, by first | rfl | (simp [errW_none, errW_some] <;> rfl) | (simp [*, errW_none, errW_some] <;> rfl), by (with_reducible repeat (first | apply Kd.R_alloc | apply Kd.R_drewN | apply Kd.R_drew)); exact Kd.R_mono (Kd.R_far (p := ⟨gb242, 5, none⟩) (Kd.R_far (p := ⟨gb242, 4, none⟩) (Kd.R_far (p := ⟨gb242, 3, none⟩) (Kd.R_far (p := ⟨gb242, 2, none⟩) (Kd.R_far (p := ⟨gb242, 1, none⟩) (Kd.R_far (p := ⟨gb242, 0, none⟩) (Kd.R_types HO_247004.out BK242.out (by decide)) (fun _ hk => hk.2) (.int .i64 (wrap64 (Go.bits .and .u8 (rd l0 0) 127)))) (fun _ hk => hk.2) (.int .i64 x247001_9)) (fun _ hk => hk.2) (.int .i64 x247002_9)) (fun _ hk => hk.2) (.int .i64 x247003_9)) (fun _ hk => hk.2) (.slice Ao77 x247004_9.length co77)) (fun _ hk => hk.2) (.slice Ao78 x247005_9.length co78)) (fun _ hk => trivial), by (with_reducible repeat (first | apply Kd.R_alloc | apply Kd.R_drewN | apply Kd.R_drew)); exact Kd.R_mono (Kd.R_far (p := ⟨gb242, 5, none⟩) (Kd.R_far (p := ⟨gb242, 4, none⟩) (Kd.R_far (p := ⟨gb242, 3, none⟩) (Kd.R_far (p := ⟨gb242, 2, none⟩) (Kd.R_far (p := ⟨gb242, 1, none⟩) (Kd.R_far (p := ⟨gb242, 0, none⟩) (Kd.R_types HO_247005.out BK242.out (by decide)) (fun _ hk => hk.2) (.int .i64 (wrap64 (Go.bits .and .u8 (rd l0 0) 127)))) (fun _ hk => hk.2) (.int .i64 x247001_9)) (fun _ hk => hk.2) (.int .i64 x247002_9)) (fun _ hk => hk.2) (.int .i64 x247003_9)) (fun _ hk => hk.2) (.slice Ao77 x247004_9.length co77)) (fun _ hk => hk.2) (.slice Ao78 x247005_9.length co78)) (fun _ hk => trivial), bS HB.out⟩
        ·replace c74 := Bool.eq_false_iff.mpr c74
         subst c74
         have H1 : (some (0, 0, 0, 0, ([] : List Int), ([] : List Bool), 3)) = some (r1, r2, r3, r4, r5, r6, r7) := by rw [if_neg (show ¬ (false = true) by decide)] at H; exact H
         clear H
         have H := H1
         clear H1
         simp only [Option.some.injEq, Prod.mk.injEq] at H
         obtain ⟨rfl, rfl, rfl, rfl, rfl, rfl, rfl⟩ := H
         have hnb85 := NB246_242.out
         have hnc85 := NB242_246.out
         obtain ⟨hcz86_0, hfz86_0, hcz86_1, hfz86_1, hcz86_2, hfz86_2, hcz86_3, hfz86_3, hcz86_4, hfz86_4, hcz86_5, hfz86_5⟩ := bk6 BK246.out
         obtain ⟨Ao87, co87, eo87⟩ := Kd.R_slice HO_247004.out
         subst eo87
         obtain ⟨Ao88, co88, eo88⟩ := Kd.R_slice HO_247005.out
         subst eo88
         go_wp2_with (first | ((with_reducible refine gate_callee (f := 22) rfl ?_); refine gL (some 97) rfl rfl Try.func22 (by kernel_rfl) rfl #[.agg #[.int .i64 (wrap64 (Go.bits .and .u8 (rd l0 0) 127)), .int .i64 x247001_9, .int .i64 x247002_9, .int .i64 x247003_9, .slice Ao87 x247004_9.length co87, .slice Ao88 x247005_9.length co88]] rfl ?_; (with_reducible refine (spec_RespOk.calls kj9 (wrap64 (Go.bits .and .u8 (rd l0 0) 127)) x247001_9 x247002_9 x247003_9 _ _ x247004_9 _ _ x247005_9 true _ ?side1 ?side2 ?side3 ?side4 A70.out).mono ?_); (case side1 => exact cR HO_247004.out); (case side2 => exact (Kd.R_reads' HO_247004.out).2.1); (case side3 => exact cR HO_247005.out); (case side4 => exact (Kd.R_reads' HO_247005.out).2.1); rintro e w89 ⟨rfl, hb⟩; refine ⟨_, rfl, ?_⟩; have _ := aM (rB HO_247004.out hb); have _ := aM (rB HO_247005.out hb); have _ := aM (kB BK242.out hb); have _ := aM (kB BK246.out hb); have _ := aM (below_step (bS HB.out) hb); clear HO_247004 HO_247005 BK242 BK246 HB; rename_i HO_247004 HO_247005 BK242 BK246 HB; (try clear hb); obtain ⟨hcz90_0, hfz90_0, hcz90_1, hfz90_1, hcz90_2, hfz90_2, hcz90_3, hfz90_3, hcz90_4, hfz90_4, hcz90_5, hfz90_5⟩ := bk6 BK246.out) | (go_at_call 8; (with_reducible refine (spec_PutResp.calls kj9 (wrap64 (Go.bits .and .u8 (rd l0 0) 127)) x247001_9 x247002_9 x247003_9 _ _ x247004_9 _ _ x247005_9 t271 _ ?side1 ?side2 ?side3 ?side4 A72.out).mono ?_); (case side1 => exact cR HO_247004.out); (case side2 => exact (Kd.R_reads' HO_247004.out).2.1); (case side3 => exact cR HO_247005.out); (case side4 => exact (Kd.R_reads' HO_247005.out).2.1); rintro e w91 ⟨v272, rfl, ho0, hb⟩; have _ := aM (rB HO_247004.out hb); have _ := aM (rB HO_247005.out hb); have _ := aM (Kd.V_lower (Kd.V_mono (ok' := fun k_ => some k_ ≠ (.slice Ao87 x247004_9.length co87 : Value).ownBlock ∧ some k_ ≠ (.slice Ao88 x247005_9.length co88 : Value).ownBlock ∧ k_ ≠ gb242 ∧ k_ ≠ gb246) ho0 (fun k_ hk_ => ⟨(Kd.fresh' (Kd.R_lt (rA HO_247004.out)) k_ hk_), (Kd.fresh' (Kd.R_lt (rA HO_247005.out)) k_ hk_), (Kd.freshB (g := gb242) (o := .cells #[.int .i64 0, .int .i64 0, .int .i64 0, .int .i64 0, .slice none 0 0, .slice none 0 0] 29 (0, 0)) (kA BK242.out) k_ hk_), (Kd.freshB (g := gb246) (o := .cells #[.int .i64 (wrap64 (Go.bits .and .u8 (rd l0 0) 127)), .int .i64 x247001_9, .int .i64 x247002_9, .int .i64 x247003_9, .slice Ao87 x247004_9.length co87, .slice Ao88 x247005_9.length co88] 29 (0, 0)) (kA BK246.out) k_ hk_)⟩)) (below_size (bS HB.out))); have _ := aM (kB BK242.out hb); have _ := aM (kB BK246.out hb); have _ := aM (below_step (bS HB.out) hb); clear HO_247004 HO_247005 BK242 BK246 HB; rename_i HO_247004 HO_247005 HO273 BK242 BK246 HB; (try clear hb); (try clear ho0); obtain ⟨Ao92, co92, eo92⟩ := Kd.V_slice HO273.out; subst eo92) | (go_at_call 49; (with_reducible refine (spec_l3Same.calls kj9 _ _ t271 _ _ l0 false _ ?side1 ?side2 ?side3 ?side4 A73.out).mono ?_); (case side1 => repeat (first | exact (Kd.V_reads' HO273.out).2.2 | (with_reducible refine Kd.C_alloc ?_ _) | (with_reducible refine Kd.C_drewN ?_ _) | (with_reducible refine Kd.C_drew ?_))); (case side2 => exact (Kd.V_reads' HO273.out).2.1); (case side3 => exact cB HR0.out HB.out); (case side4 => exact HC0.out); rintro e w' ⟨rfl, ⟨nd, rfl⟩⟩; (try (rw [drewN_self w91]; generalize hq_ : World.drewN w91 _ = w91; have n0_ : Aside0 (Kd.V (Kd.int .u8) 5 w91 w.heap.size (fun k_ => some k_ ≠ (.slice Ao87 x247004_9.length co87 : Value).ownBlock ∧ some k_ ≠ (.slice Ao88 x247005_9.length co88 : Value).ownBlock ∧ k_ ≠ gb242 ∧ k_ ≠ gb246) (.slice Ao92 t271.length co92) t271) := ⟨by rw [← hq_]; exact (by (with_reducible repeat (first | apply Kd.V_alloc | apply Kd.V_drewN | apply Kd.V_drew)); exact HO273.out)⟩; have n1_ : Aside0 (Kd.R (Kd.int .i64) 3 w91 w.heap.size (fun _ => True) (.slice Ao87 x247004_9.length co87) x247004_9) := ⟨by rw [← hq_]; exact (rA HO_247004.out)⟩; have n2_ : Aside0 (Kd.R Kd.bool 4 w91 w.heap.size (fun _ => True) (.slice Ao88 x247005_9.length co88) x247005_9) := ⟨by rw [← hq_]; exact (rA HO_247005.out)⟩; have n3_ : Aside0 (w91.heap[gb242]? = some (.cells #[.int .i64 0, .int .i64 0, .int .i64 0, .int .i64 0, .slice none 0 0, .slice none 0 0] 29 (0, 0))) := ⟨by rw [← hq_]; exact (kA BK242.out)⟩; have n4_ : Aside0 (w91.heap[gb246]? = some (.cells #[.int .i64 (wrap64 (Go.bits .and .u8 (rd l0 0) 127)), .int .i64 x247001_9, .int .i64 x247002_9, .int .i64 x247003_9, .slice Ao87 x247004_9.length co87, .slice Ao88 x247005_9.length co88] 29 (0, 0))) := ⟨by rw [← hq_]; exact (kA BK246.out)⟩; have n5_ : Aside0 (Below w.heap.size w w91) := ⟨by rw [← hq_]; exact (bS HB.out)⟩; clear HO273 HO_247004 HO_247005 BK242 BK246 HB hq_; have HO273 := n0_; have HO_247004 := n1_; have HO_247005 := n2_; have BK242 := n3_; have BK246 := n4_; have HB := n5_; clear n0_ n1_ n2_ n3_ n4_ n5_; have hcugb242_0 : w91.cell? ⟨gb242, 0, none⟩ = some (.int .i64 0) := (blk_cell BK242.out 0).trans rfl; have hfugb242_0 := blk_frozen BK242.out 0; have hcugb242_1 : w91.cell? ⟨gb242, 1, none⟩ = some (.int .i64 0) := (blk_cell BK242.out 1).trans rfl; have hfugb242_1 := blk_frozen BK242.out 1; have hcugb242_2 : w91.cell? ⟨gb242, 2, none⟩ = some (.int .i64 0) := (blk_cell BK242.out 2).trans rfl; have hfugb242_2 := blk_frozen BK242.out 2; have hcugb242_3 : w91.cell? ⟨gb242, 3, none⟩ = some (.int .i64 0) := (blk_cell BK242.out 3).trans rfl; have hfugb242_3 := blk_frozen BK242.out 3; have hcugb242_4 : w91.cell? ⟨gb242, 4, none⟩ = some (.slice none 0 0) := (blk_cell BK242.out 4).trans rfl; have hfugb242_4 := blk_frozen BK242.out 4; have hcugb242_5 : w91.cell? ⟨gb242, 5, none⟩ = some (.slice none 0 0) := (blk_cell BK242.out 5).trans rfl; have hfugb242_5 := blk_frozen BK242.out 5; have hcugb246_0 : w91.cell? ⟨gb246, 0, none⟩ = some (.int .i64 (wrap64 (Go.bits .and .u8 (rd l0 0) 127))) := (blk_cell BK246.out 0).trans rfl; have hfugb246_0 := blk_frozen BK246.out 0; have hcugb246_1 : w91.cell? ⟨gb246, 1, none⟩ = some (.int .i64 x247001_9) := (blk_cell BK246.out 1).trans rfl; have hfugb246_1 := blk_frozen BK246.out 1; have hcugb246_2 : w91.cell? ⟨gb246, 2, none⟩ = some (.int .i64 x247002_9) := (blk_cell BK246.out 2).trans rfl; have hfugb246_2 := blk_frozen BK246.out 2; have hcugb246_3 : w91.cell? ⟨gb246, 3, none⟩ = some (.int .i64 x247003_9) := (blk_cell BK246.out 3).trans rfl; have hfugb246_3 := blk_frozen BK246.out 3; have hcugb246_4 : w91.cell? ⟨gb246, 4, none⟩ = some (.slice Ao87 x247004_9.length co87) := (blk_cell BK246.out 4).trans rfl; have hfugb246_4 := blk_frozen BK246.out 4; have hcugb246_5 : w91.cell? ⟨gb246, 5, none⟩ = some (.slice Ao88 x247005_9.length co88) := (blk_cell BK246.out 5).trans rfl; have hfugb246_5 := blk_frozen BK246.out 5)); obtain ⟨hcz93_0, hfz93_0, hcz93_1, hfz93_1, hcz93_2, hfz93_2, hcz93_3, hfz93_3, hcz93_4, hfz93_4, hcz93_5, hfz93_5⟩ := bk6 BK242.out))
         refine bodyPost_ret (results_ct rfl _ _ gb242 29 #[.int .i64 0, .int .i64 0, .int .i64 0, .int .i64 0, .slice none 0 0, .slice none 0 0] (0, 0) _ rfl (kP6 BK242.out) Try.underlying29 rfl (by kernel_rfl)) rfl ?_
         exact ⟨_, _, by first | rfl | (simp [errW_none, errW_some] <;> rfl) | (simp [*, errW_none, errW_some] <;> rfl), by first | exact Kd.R_nil _ _ _ _ _ | exact Kd.N_nil _ _ _ _ _ | exact Kd.V_nil _ _ _ _ _ | exact Kd.Q_nil _ _ _ _ _ | exact Kd.S_nil _ _ _ _ _, by first | exact Kd.R_nil _ _ _ _ _ | exact Kd.N_nil _ _ _ _ _ | exact Kd.V_nil _ _ _ _ _ | exact Kd.Q_nil _ _ _ _ _ | exact Kd.S_nil _ _ _ _ _, bS HB.out⟩
       ·replace c71 := Bool.eq_false_iff.mpr c71
        subst c71
        have H1 : (some (0, 0, 0, 0, ([] : List Int), ([] : List Bool), 3)) = some (r1, r2, r3, r4, r5, r6, r7) := by rw [if_neg (show ¬ (false = true) by decide)] at H; exact H
        clear H
        have H := H1
        clear H1
        simp only [Option.some.injEq, Prod.mk.injEq] at H
        obtain ⟨rfl, rfl, rfl, rfl, rfl, rfl, rfl⟩ := H
        have hnb94 := NB246_242.out
        have hnc94 := NB242_246.out
        obtain ⟨hcz95_0, hfz95_0, hcz95_1, hfz95_1, hcz95_2, hfz95_2, hcz95_3, hfz95_3, hcz95_4, hfz95_4, hcz95_5, hfz95_5⟩ := bk6 BK246.out
        obtain ⟨Ao96, co96, eo96⟩ := Kd.R_slice HO_247004.out
        subst eo96
        obtain ⟨Ao97, co97, eo97⟩ := Kd.R_slice HO_247005.out
        subst eo97
        go_wp2_with (first | ((with_reducible refine gate_callee (f := 22) rfl ?_); refine gL (some 97) rfl rfl Try.func22 (by kernel_rfl) rfl #[.agg #[.int .i64 (wrap64 (Go.bits .and .u8 (rd l0 0) 127)), .int .i64 x247001_9, .int .i64 x247002_9, .int .i64 x247003_9, .slice Ao96 x247004_9.length co96, .slice Ao97 x247005_9.length co97]] rfl ?_; (with_reducible refine (spec_RespOk.calls kj9 (wrap64 (Go.bits .and .u8 (rd l0 0) 127)) x247001_9 x247002_9 x247003_9 _ _ x247004_9 _ _ x247005_9 false _ ?side1 ?side2 ?side3 ?side4 A70.out).mono ?_); (case side1 => exact cR HO_247004.out); (case side2 => exact (Kd.R_reads' HO_247004.out).2.1); (case side3 => exact cR HO_247005.out); (case side4 => exact (Kd.R_reads' HO_247005.out).2.1); rintro e w98 ⟨rfl, hb⟩; refine ⟨_, rfl, ?_⟩; have _ := aM (rB HO_247004.out hb); have _ := aM (rB HO_247005.out hb); have _ := aM (kB BK242.out hb); have _ := aM (kB BK246.out hb); have _ := aM (below_step (bS HB.out) hb); clear HO_247004 HO_247005 BK242 BK246 HB; rename_i HO_247004 HO_247005 BK242 BK246 HB; (try clear hb); obtain ⟨hcz99_0, hfz99_0, hcz99_1, hfz99_1, hcz99_2, hfz99_2, hcz99_3, hfz99_3, hcz99_4, hfz99_4, hcz99_5, hfz99_5⟩ := bk6 BK242.out))
        refine bodyPost_ret (results_ct rfl _ _ gb242 29 #[.int .i64 0, .int .i64 0, .int .i64 0, .int .i64 0, .slice none 0 0, .slice none 0 0] (0, 0) _ rfl (kP6 BK242.out) Try.underlying29 rfl (by kernel_rfl)) rfl ?_
        exact ⟨_, _, by first | rfl | (simp [errW_none, errW_some] <;> rfl) | (simp [*, errW_none, errW_some] <;> rfl), by first | exact Kd.R_nil _ _ _ _ _ | exact Kd.N_nil _ _ _ _ _ | exact Kd.V_nil _ _ _ _ _ | exact Kd.Q_nil _ _ _ _ _ | exact Kd.S_nil _ _ _ _ _, by first | exact Kd.R_nil _ _ _ _ _ | exact Kd.N_nil _ _ _ _ _ | exact Kd.V_nil _ _ _ _ _ | exact Kd.Q_nil _ _ _ _ _ | exact Kd.S_nil _ _ _ _ _, bS HB.out⟩
    ·rw [if_neg c9] at H
     exact absurd H (by simp)

end Go.Proofs.Ytfiplepbmennbaa.PFnExactGetResp
