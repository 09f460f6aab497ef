/- Functions and contracts of the law FnExactGetReq: what the Go text computes, step by step. -/
import Derived.Test.YteoghpcgompajaaL
import Derived.Test.YteoghpcgompajaaQFnExactGetReqx0
import Derived.Test.YteoghpcgompajaaQFnExactGetReqx3
import Derived.Test.YteoghpcgompajaaQFnExactGetReqx4
namespace Go.Proofs.Yteoghpcgompajaa.PFnExactGetReq
open Go.Proofs.Yteoghpcgompajaa.K Go.Proofs.Yteoghpcgompajaa.G Go.RowKit Go.Proofs.YteoghpcgompajaaW.PrintWords Go.Proofs.YteoghpcgompajaaW.PrintLast Go.Proofs.YteoghpcgompajaaW.PrintMore
attribute [local go_sem] max2_int min2_int max_two min_two max_three min_three max_four min_four   -- for this text's walks alone
set_option linter.unusedVariables false
set_option linter.unusedSimpArgs false

/-! ### spec_PutReq: function 12 -/
def spec_PutReq.j0 : Nat → List Int → Int → Bool → Int → Int → Int → List Int → List Bool → Int → Option (List Int)
 | 0, _, _, _, _, _, _, _, _, _ => none
 | k + 1, x3, x17, x26, x181000, x181001, x181002, x181003, x181004, x181005 => if x26 = true then ((spec_l3PutWords.f k x3 x181003).bind fun t195 => (some t195)) else (if x17 = 15 then ((spec_PackBits.f k x181004).bind fun t198 => ((spec_PutWord.f x3 (x181004.length : Int)).bind fun t201 => ((some (([((t198.length : Int)) % 256] : List Int) : List Int)).bind fun y204 => (if t201.length + y204.length < 140737488355328 then ((some (t201 ++ y204 : List Int)).bind fun y207 => (if y207.length + t198.length < 140737488355328 then (some (y207 ++ t198)) else (none))) else (none))))) else (if x17 = 16 then ((spec_PutWord.f x3 (x181003.length : Int)).bind fun t213 => ((some (([(wrap64 (2 * (x181003.length : Int))) % 256] : List Int) : List Int)).bind fun y216 => (if t213.length + y216.length < 140737488355328 then ((spec_l3PutWords.f k (t213 ++ y216) x181003).bind fun t222 => (some t222)) else (none)))) else (if x17 = 23 then ((spec_PutWord.f x3 x181002).bind fun t225 => ((spec_PutWord.f t225 x181005).bind fun t228 => ((spec_PutWord.f t228 (x181003.length : Int)).bind fun t231 => ((some (([(wrap64 (2 * (x181003.length : Int))) % 256] : List Int) : List Int)).bind fun y234 => (if t231.length + y234.length < 140737488355328 then ((spec_l3PutWords.f k (t231 ++ y234) x181003).bind fun t240 => (some t240)) else (none)))))) else ((spec_PutWord.f x3 x181002).bind fun t243 => (some t243)))))
def spec_PutReq.f (k : Nat) (a0_0 : Int) (a0_1 : Int) (a0_2 : Int) (l0_3 : List Int) (l0_4 : List Bool) (a0_5 : Int) : Option (List Int) := (spec_ReqOk.f k a0_0 a0_1 a0_2 l0_3 l0_4 a0_5).bind fun t181 => (if t181 = true then ((spec_PutWord.f (([(a0_0) % 256] : List Int)) a0_1).bind fun t188 => (if a0_0 = 5 then (if 0 < (l0_4.length : Int) then ((spec_l3Coil.f t188 (rdOf false l0_4 0)).bind fun t192 => (some t192)) else (none)) else (if a0_0 = 6 then (spec_PutReq.j0 k t188 a0_0 (a0_0 == 6) a0_0 a0_1 a0_2 l0_3 l0_4 a0_5) else (spec_PutReq.j0 k t188 a0_0 (a0_0 == 22) a0_0 a0_1 a0_2 l0_3 l0_4 a0_5)))) else (some (([] : List Int))))
theorem spec_PutReq.mono_l : ∀ k, (∀ y0 y1 y2 y3 y4 y5 y6 y7 y8, LeO (spec_PutReq.j0 k y0 y1 y2 y3 y4 y5 y6 y7 y8) (spec_PutReq.j0 (k + 1) y0 y1 y2 y3 y4 y5 y6 y7 y8))
 | 0 => fun _ _ _ _ _ _ _ _ _ r h => by simp [spec_PutReq.j0] at h
 | k + 1 => by
  have ih0 := spec_PutReq.mono_l k
  ·intro y0 y1 y2 y3 y4 y5 y6 y7 y8
   unfold spec_PutReq.j0
   repeat' first
   | (with_reducible exact ih0 _ _ _ _ _ _ _ _ _)
   | (with_reducible exact spec_PackBits.mono _ _)
   | (with_reducible exact spec_ReqOk.mono _ _ _ _ _ _ _)
   | (with_reducible exact spec_l3PutWords.mono _ _ _)
   | (with_reducible exact LeO.refl _)
   | (with_reducible exact LeO.none _)
   | (with_reducible refine LeO.ite ?_ ?_)
   | (with_reducible refine LeO.bind ?_ (fun _ => ?_))
   | exact ih0 _ _ _ _ _ _ _ _ _
   | exact spec_PackBits.mono _ _
   | exact spec_ReqOk.mono _ _ _ _ _ _ _
   | exact spec_l3PutWords.mono _ _ _
   | exact LeO.none _
   | refine LeO.ite ?_ ?_
   | refine LeO.bind ?_ (fun _ => ?_)
theorem spec_PutReq.mono : ∀ a0 a1 a2 a3 a4 a5 k, LeO (spec_PutReq.f k a0 a1 a2 a3 a4 a5) (spec_PutReq.f (k + 1) a0 a1 a2 a3 a4 a5) := by
 intro a0 a1 a2 a3 a4 a5 k
 have ih0 := spec_PutReq.mono_l k
 unfold spec_PutReq.f
 repeat' first
   | (with_reducible exact ih0 _ _ _ _ _ _ _ _ _)
   | (with_reducible exact spec_PackBits.mono _ _)
   | (with_reducible exact spec_ReqOk.mono _ _ _ _ _ _ _)
   | (with_reducible exact spec_l3PutWords.mono _ _ _)
   | (with_reducible exact LeO.refl _)
   | (with_reducible exact LeO.none _)
   | (with_reducible refine LeO.ite ?_ ?_)
   | (with_reducible refine LeO.bind ?_ (fun _ => ?_))
   | exact ih0 _ _ _ _ _ _ _ _ _
   | exact spec_PackBits.mono _ _
   | exact spec_ReqOk.mono _ _ _ _ _ _ _
   | exact spec_l3PutWords.mono _ _ _
   | exact LeO.none _
   | refine LeO.ite ?_ ?_
   | refine LeO.bind ?_ (fun _ => ?_)
def spec_PutReq.T14 : Bool × List (List Nat × List Nat) := (true, [([], []), ([], []), ([1], [1]), ([2], [2]), ([0, 3], [0, 3]), ([], []), ([5], [5]), ([6], [6]), ([7], [7]), ([8], [8]), ([9], [9]), ([4, 10, 4], [4, 10]), ([], []), ([12], [12]), ([11, 13, 11], [11, 13]), ([14, 14, 0, 1, 2, 3, 4, 5, 6, 7, 8, 9, 10, 11, 12, 13, 14], [14])])
def spec_PutReq.B14 : List Nat := [0, 0, 2, 6, 15, 0, 32, 96, 224, 480, 992, 2047, 0, 4096, 16383, 32767]
theorem spec_PutReq.tab14 : rtab .any (opsOf Try.f12 14) = spec_PutReq.T14 := by kernel_rfl
theorem spec_PutReq.bits14 : waitsOk spec_PutReq.T14.2 spec_PutReq.B14 = true := by kernel_rfl
def spec_PutReq.T16 : Bool × List (List Nat × List Nat) := (true, [([], []), ([], []), ([1], [1]), ([0, 2], [0, 2]), ([], []), ([4], [4]), ([3, 5, 3], [3, 5]), ([], []), ([7], [7]), ([8], [8]), ([6, 9, 6], [6, 9]), ([10, 10, 0, 1, 2, 3, 4, 5, 6, 7, 8, 9, 10], [0, 10])])
def spec_PutReq.B16 : List Nat := [0, 0, 2, 7, 0, 16, 63, 0, 128, 384, 1023, 2047]
theorem spec_PutReq.tab16 : rtab .any (opsOf Try.f12 16) = spec_PutReq.T16 := by kernel_rfl
theorem spec_PutReq.bits16 : waitsOk spec_PutReq.T16.2 spec_PutReq.B16 = true := by kernel_rfl
def spec_PutReq.T17 : Bool × List (List Nat × List Nat) := (true, [([], []), ([], []), ([1], [1]), ([2], [2]), ([3], [3]), ([4], [4]), ([5], [5]), ([0, 6], [0, 6]), ([], []), ([8], [8]), ([7, 9, 7], [7, 9]), ([10, 10, 0, 1, 2, 3, 4, 5, 6, 7, 8, 9, 10], [10])])
def spec_PutReq.B17 : List Nat := [0, 0, 2, 6, 14, 30, 62, 127, 0, 256, 1023, 2047]
theorem spec_PutReq.tab17 : rtab .any (opsOf Try.f12 17) = spec_PutReq.T17 := by kernel_rfl
theorem spec_PutReq.bits17 : waitsOk spec_PutReq.T17.2 spec_PutReq.B17 = true := by kernel_rfl
set_option maxHeartbeats 8000000 in
set_option maxRecDepth 100000 in
theorem spec_PutReq.calls (k : Nat) (a0_0 : Int) (a0_1 : Int) (a0_2 : Int) (A0_3 : Option Addr) (c0_3 : Nat) (l0_3 : List Int) (A0_4 : Option Addr) (c0_4 : Nat) (l0_4 : List Bool) (a0_5 : Int) (r : List Int) (w : World) (hr0_3 : Kd.C (Kd.int .i64) w A0_3 l0_3.length l0_3) (hc0_3 : l0_3.length ≤ c0_3) (hr0_4 : Kd.C Kd.bool w A0_4 l0_4.length l0_4) (hc0_4 : l0_4.length ≤ c0_4) (h : spec_PutReq.f k a0_0 a0_1 a0_2 l0_3 l0_4 a0_5 = some r) :
  Calls Try.prog 12 #[.agg #[.int .i64 a0_0, .int .i64 a0_1, .int .i64 a0_2, .slice A0_3 l0_3.length c0_3, .slice A0_4 l0_4.length c0_4, .int .i64 a0_5]] w fun e w' => ∃ v0_ : Value, e = .returned (v0_) ∧ Kd.V (Kd.int .u8) 5 w' w.heap.size (fun k_ => (w.heap.size ≤ k_)) v0_ r ∧ Below w.heap.size w w' := by
 have hu29 := Try.underlying29
 have HR0_3 := aM hr0_3
 have HC0_3 := aM hc0_3
 clear hr0_3 hc0_3
 have HR0_4 := aM hr0_4
 have HC0_4 := aM hc0_4
 clear hr0_4 hc0_4
 have HB := aM (Below.refl w.heap.size w)
 have H : ((spec_ReqOk.f k a0_0 a0_1 a0_2 l0_3 l0_4 a0_5).bind fun t181 => (if t181 = true then ((spec_PutWord.f (([(a0_0) % 256] : List Int)) a0_1).bind fun t188 => (if a0_0 = 5 then (if 0 < (l0_4.length : Int) then ((spec_l3Coil.f t188 (rdOf false l0_4 0)).bind fun t192 => (some t192)) else (none)) else (if a0_0 = 6 then (spec_PutReq.j0 k t188 a0_0 (a0_0 == 6) a0_0 a0_1 a0_2 l0_3 l0_4 a0_5) else (spec_PutReq.j0 k t188 a0_0 (a0_0 == 22) a0_0 a0_1 a0_2 l0_3 l0_4 a0_5)))) else (some (([] : List Int))))) = some r := h
 clear h
 replace H := Option.bind_eq_some_iff.mp H
 obtain ⟨t181, A20, H⟩ := H
 replace H : (if t181 = true then ((spec_PutWord.f (([(a0_0) % 256] : List Int)) a0_1).bind fun t188 => (if a0_0 = 5 then (if 0 < (l0_4.length : Int) then ((spec_l3Coil.f t188 (rdOf false l0_4 0)).bind fun t192 => (some t192)) else (none)) else (if a0_0 = 6 then (spec_PutReq.j0 k t188 a0_0 (a0_0 == 6) a0_0 a0_1 a0_2 l0_3 l0_4 a0_5) else (spec_PutReq.j0 k t188 a0_0 (a0_0 == 22) a0_0 a0_1 a0_2 l0_3 l0_4 a0_5)))) else (some (([] : List Int)))) = some r := H
 have A2 := aM A20
 clear A20
 by_cases c3 : t181 = true
 ·subst c3
  have H1 : ((spec_PutWord.f (([(a0_0) % 256] : List Int)) a0_1).bind fun t188 => (if a0_0 = 5 then (if 0 < (l0_4.length : Int) then ((spec_l3Coil.f t188 (rdOf false l0_4 0)).bind fun t192 => (some t192)) else (none)) else (if a0_0 = 6 then (spec_PutReq.j0 k t188 a0_0 (a0_0 == 6) a0_0 a0_1 a0_2 l0_3 l0_4 a0_5) else (spec_PutReq.j0 k t188 a0_0 (a0_0 == 22) a0_0 a0_1 a0_2 l0_3 l0_4 a0_5)))) = some r := by rw [if_pos rfl] at H; exact H
  clear H
  have H := H1
  clear H1
  obtain ⟨y185, hy185⟩ : ∃ y_ : List Int, y_ = (([(a0_0) % 256] : List Int)) := ⟨_, rfl⟩
  replace H : ((spec_PutWord.f y185 a0_1).bind fun t188 => (if a0_0 = 5 then (if 0 < (l0_4.length : Int) then ((spec_l3Coil.f t188 (rdOf false l0_4 0)).bind fun t192 => (some t192)) else (none)) else (if a0_0 = 6 then (spec_PutReq.j0 k t188 a0_0 (a0_0 == 6) a0_0 a0_1 a0_2 l0_3 l0_4 a0_5) else (spec_PutReq.j0 k t188 a0_0 (a0_0 == 22) a0_0 a0_1 a0_2 l0_3 l0_4 a0_5)))) = some r := by first | (rw [hy185]; with_reducible exact H) | (have H2_ := (Option.bind_some _ _).symm.trans H; rw [hy185]; with_reducible exact H2_) | (have H2_ := (Option.bind_some _ _).symm.trans H; with_reducible exact H2_) | with_reducible exact H | (rw [hy185]; exact H) | exact H
  have Ny185 := aM hy185
  clear hy185
  replace H := Option.bind_eq_some_iff.mp H
  obtain ⟨t188, A40, H⟩ := H
  replace H : (if a0_0 = 5 then (if 0 < (l0_4.length : Int) then ((spec_l3Coil.f t188 (rdOf false l0_4 0)).bind fun t192 => (some t192)) else (none)) else (if a0_0 = 6 then (spec_PutReq.j0 k t188 a0_0 (a0_0 == 6) a0_0 a0_1 a0_2 l0_3 l0_4 a0_5) else (spec_PutReq.j0 k t188 a0_0 (a0_0 == 22) a0_0 a0_1 a0_2 l0_3 l0_4 a0_5))) = some r := H
  have A4 := aM A40
  clear A40
  by_cases c5 : a0_0 = 5
  ·rw [if_pos c5] at H
   have c5b0 : (a0_0 == 5) = true := beq_iff_eq.mpr c5
   have c5b1 : (a0_0 != 5) = false := bne_eq_false_iff_eq.mpr c5
   clear c5
   by_cases c6 : 0 < (l0_4.length : Int)
   ·rw [if_pos c6] at H
    have c6b0 : decide (0 < (l0_4.length : Int)) = true := decide_eq_true c6
    have c6b1 : decide (0 < l0_4.length) = true := decide_eq_true (by omega)
    clear c6
    replace H := Option.bind_eq_some_iff.mp H
    obtain ⟨t192, A70, H⟩ := H
    replace H : (some t192) = some r := H
    have A7 := aM A70
    clear A70
    obtain rfl := Option.some.inj H
    go_enter Try.func12, Try.ntmps12
    go_wp2_with (first | ((with_reducible refine gate_dst (N := 1) rfl ?_); refine box_event ?hg (N := 1) ?hd (cs := #[.int .i64 a0_0, .int .i64 a0_1, .int .i64 a0_2, .slice A0_3 l0_3.length c0_3, .slice A0_4 l0_4.length c0_4, .int .i64 a0_5]) (t := 29) ?hr ?_; (case hd => rfl); (case hg => rfl); (case hr => first | (go_simp; done) | (go_simp; rfl)); intro gb180 hg w8 hbox hb; have _ := aM (below_step (bS HB.out) hb); have _ := aM (hbox); have _ := aM (leG hg (bS HB.out)); have _ := aM (leG hg (bS HB.out)); clear HB; rename_i HB BK180 GW180 GE180; clear hb hbox hg; obtain ⟨hcz9_0, hfz9_0, hcz9_1, hfz9_1, hcz9_2, hfz9_2, hcz9_3, hfz9_3, hcz9_4, hfz9_4, hcz9_5, hfz9_5⟩ := bk6 BK180.out) | ((with_reducible refine gate_callee (f := 24) rfl ?_); refine gL (some 6) rfl rfl Try.func24 (by kernel_rfl) rfl #[.agg #[.int .i64 a0_0, .int .i64 a0_1, .int .i64 a0_2, .slice A0_3 l0_3.length c0_3, .slice A0_4 l0_4.length c0_4, .int .i64 a0_5]] rfl ?_; (with_reducible refine (spec_ReqOk.calls k a0_0 a0_1 a0_2 _ _ l0_3 _ _ l0_4 a0_5 true _ ?side1 ?side2 ?side3 ?side4 A2.out).mono ?_); (case side1 => exact cB HR0_3.out HB.out); (case side2 => exact HC0_3.out); (case side3 => exact cB HR0_4.out HB.out); (case side4 => exact HC0_4.out); rintro e w10 ⟨rfl, hb⟩; refine ⟨_, rfl, ?_⟩; have _ := aM (kB BK180.out hb); have _ := aM (below_step (bS HB.out) hb); clear BK180 HB; rename_i BK180 HB; (try clear hb); obtain ⟨hcz11_0, hfz11_0, hcz11_1, hfz11_1, hcz11_2, hfz11_2, hcz11_3, hfz11_3, hcz11_4, hfz11_4, hcz11_5, hfz11_5⟩ := bk6 BK180.out) | ((with_reducible refine gate_dst (N := 12) rfl ?_); refine Kd.R_lit (Kd.int .u8) _ 5 ?hg (N := 12) ?hd (xs := ([(a0_0) % 256] : List Int)) (inner := [.int .u8 ((a0_0) % 256)]) (ok := fun _ => True) (okp := fun _ => True) ?hr ?hp (fun _ hk => hk) trivial (Below.refl _ _) (Nat.le_refl _) (by simp) ?_; (case hd => rfl); (case hg => rfl); (case hr => first | (go_simp; done) | (go_simp; rfl)); (case hp => exact (Reps.one (show Kd.M (Kd.int .u8) _ _ _ ((a0_0) % 256) [.int .u8 ((a0_0) % 256)] from rfl) (Reps.none _ _))); intro v186 w12 ho13 hb hg_ hnew_; clear hg_ hnew_; (first | rw [← Ny185.out] at ho13 | (simp only [Int.reduceToNat] at ho13; rw [← Ny185.out] at ho13)); have _ := aM (Kd.R_lower (Kd.R_newM (M := fun k_ => (w.heap.size ≤ k_)) ho13 (below_size (bS HB.out)) (fun k_ h_ => h_)) (below_size (bS HB.out))); have _ := aM (kB BK180.out hb); have _ := aM (below_step (bS HB.out) hb); clear BK180 HB; rename_i HO187 BK180 HB; clear hb ho13; obtain ⟨hcz14_0, hfz14_0, hcz14_1, hfz14_1, hcz14_2, hfz14_2, hcz14_3, hfz14_3, hcz14_4, hfz14_4, hcz14_5, hfz14_5⟩ := bk6 BK180.out; obtain ⟨Ao15, co15, eo15⟩ := Kd.R_slice HO187.out; subst eo15) | ((with_reducible refine gate_callee (f := 35) rfl ?_); refine gL (some 15) rfl rfl Try.func35 (by kernel_rfl) rfl #[.slice Ao15 y185.length co15, .int .i64 a0_1] rfl ?_; (with_reducible refine (spec_PutWord.calls _ _ y185 a0_1 t188 _ ?side1 ?side2 A4.out).mono ?_); (case side1 => exact cR HO187.out); (case side2 => exact (Kd.R_reads' HO187.out).2.1); rintro e w16 ⟨v189, rfl, ho0, hb⟩; refine ⟨_, rfl, ?_⟩; have _ := aM (Kd.R_elder' (rA HO187.out) (Kd.R_base ho0) hb); have _ := aM (Kd.R_lower (Kd.R_new' (Kd.R_newM (M := fun k_ => (w.heap.size ≤ k_)) ho0 (below_size (bS HB.out)) (fun k_ h_ => h_)) (Kd.R_lt (rA HO187.out))) (below_size (bS HB.out))); have _ := aM (kB BK180.out hb); have _ := aM (below_step (bS HB.out) hb); clear HO187 BK180 HB; rename_i HO187 HO190 BK180 HB; (try clear hb); (try clear ho0); obtain ⟨hcz17_0, hfz17_0, hcz17_1, hfz17_1, hcz17_2, hfz17_2, hcz17_3, hfz17_3, hcz17_4, hfz17_4, hcz17_5, hfz17_5⟩ := bk6 BK180.out; have p191 : 0 ≤ (0 : Int) := (by omega); have q191 : 0 < (l0_4.length : Int) := of_decide_eq_true (by first | (with_reducible assumption) | assumption); obtain ⟨ad191, e191, hx191_0⟩ := Kd.at_bool HR0_4.out 0 p191 q191; cases e191; have qi191 : (0 < l0_4.length) = True := eq_true (by omega); (try rw [show ((0 : Int)).toNat = 0 from rfl] at hx191_0); (try rw [Addr.add_zero'] at hx191_0); replace hx191_0 := (HB.out.cell (World.block_lt_of_cell? w _ hx191_0)).trans hx191_0; replace p191 := eq_true p191; replace q191 := eq_true q191; obtain ⟨Ao18, co18, eo18⟩ := Kd.R_slice HO190.out; subst eo18) | ((with_reducible refine gate_callee (f := 36) rfl ?_); refine gL (some 25) rfl rfl Try.func36 (by kernel_rfl) rfl #[.slice Ao18 t188.length co18, .bool (rdOf false l0_4 0)] rfl ?_; (with_reducible refine (spec_l3Coil.calls (fun k_ => some k_ = (.slice Ao18 t188.length co18 : Value).ownBlock) (.slice Ao18 t188.length co18) t188 (rdOf false l0_4 0) t192 w _ ?side1 ?side2 A7.out).mono ?_); (case side1 => repeat (first | (with_reducible first | exact HB.out | apply below_alloc | apply pw_below_drewN | apply below_drew1 | refine below_set ?_ GE180.out) | exact HB.out)); (case side2 => exact Kd.R_tight rfl HO190.out); rintro e w19 ⟨v193, rfl, ho0, hb, hkp⟩; refine ⟨_, rfl, ?_⟩; have _ := aM (blk_kept (kA BK180.out) hkp (fun hs_ => (fun e_ => (Kd.R_ne HO190.out BK180.out (by decide)) e_) hs_)); have _ := aM (Kd.R_mono (ok' := fun k_ => (w.heap.size ≤ k_) ∧ some k_ ≠ (v193 : Value).ownBlock) (Kd.R_keptB (HO187.out) hkp (fun k_ hk_ hs_ => (hk_.2) hs_)) (fun k_ hk_ => ⟨hk_.1.1.1, fun e_ => Or.elim (ho0.1 k_ e_.symm) (fun hs_ => hk_.2.1 hs_) (fun hn_ => Nat.not_le.2 hk_.2.2 hn_)⟩)); have _ := aM (Kd.R_mono (ok' := fun k_ => (w.heap.size ≤ k_) ∧ some k_ ≠ (.slice Ao15 y185.length co15 : Value).ownBlock) ho0 (fun k_ hk_ => ⟨Or.elim hk_ (fun hs_ => (HO190.out.1 k_ (hs_).symm).1.1) (fun hn_ => (Nat.le_trans (below_size (bS HB.out)) hn_)), Or.elim hk_ (fun hs_ => fun e_ => (((HO187.out).1 k_ e_.symm).2) hs_) (fun hn_ => (Kd.fresh' (Kd.R_lt (rA HO187.out)) k_ hn_))⟩)); have _ := aM (hb); clear BK180 HO187 HB HO190; rename_i BK180 HO187 HO194 HB; (try clear hb); (try clear hkp); (try clear ho0)))
    go_ret
    exact ⟨_, by first | rfl | (simp [errW_none, errW_some] <;> rfl) | (simp [*, errW_none, errW_some] <;> rfl), Kd.R_V (by (with_reducible repeat (first | apply Kd.R_alloc | apply Kd.R_drewN | apply Kd.R_drew)); exact Kd.R_mono HO194.out (fun _ hk => hk.1)), bS HB.out⟩
   ·rw [if_neg c6] at H
    exact absurd H (by simp)
  ·rw [if_neg c5] at H
   have c5b0 : (a0_0 == 5) = false := beq_eq_false_iff_ne.mpr c5
   have c5b1 : (a0_0 != 5) = true := bne_iff_ne.mpr c5
   have HC20 := aM H
   clear H
   go_enter Try.func12, Try.ntmps12
   go_upto_if 26 with (first | ((with_reducible refine gate_dst (N := 1) rfl ?_); refine box_event ?hg (N := 1) ?hd (cs := #[.int .i64 a0_0, .int .i64 a0_1, .int .i64 a0_2, .slice A0_3 l0_3.length c0_3, .slice A0_4 l0_4.length c0_4, .int .i64 a0_5]) (t := 29) ?hr ?_; (case hd => rfl); (case hg => rfl); (case hr => first | (go_simp; done) | (go_simp; rfl)); intro gb180 hg w21 hbox hb; have _ := aM (below_step (bS HB.out) hb); have _ := aM (hbox); have _ := aM (leG hg (bS HB.out)); have _ := aM (leG hg (bS HB.out)); clear HB; rename_i HB BK180 GW180 GE180; clear hb hbox hg; obtain ⟨hcz22_0, hfz22_0, hcz22_1, hfz22_1, hcz22_2, hfz22_2, hcz22_3, hfz22_3, hcz22_4, hfz22_4, hcz22_5, hfz22_5⟩ := bk6 BK180.out) | ((with_reducible refine gate_callee (f := 24) rfl ?_); refine gL (some 6) rfl rfl Try.func24 (by kernel_rfl) rfl #[.agg #[.int .i64 a0_0, .int .i64 a0_1, .int .i64 a0_2, .slice A0_3 l0_3.length c0_3, .slice A0_4 l0_4.length c0_4, .int .i64 a0_5]] rfl ?_; (with_reducible refine (spec_ReqOk.calls k a0_0 a0_1 a0_2 _ _ l0_3 _ _ l0_4 a0_5 true _ ?side1 ?side2 ?side3 ?side4 A2.out).mono ?_); (case side1 => exact cB HR0_3.out HB.out); (case side2 => exact HC0_3.out); (case side3 => exact cB HR0_4.out HB.out); (case side4 => exact HC0_4.out); rintro e w23 ⟨rfl, hb⟩; refine ⟨_, rfl, ?_⟩; have _ := aM (kB BK180.out hb); have _ := aM (below_step (bS HB.out) hb); clear BK180 HB; rename_i BK180 HB; (try clear hb); obtain ⟨hcz24_0, hfz24_0, hcz24_1, hfz24_1, hcz24_2, hfz24_2, hcz24_3, hfz24_3, hcz24_4, hfz24_4, hcz24_5, hfz24_5⟩ := bk6 BK180.out) | ((with_reducible refine gate_dst (N := 12) rfl ?_); refine Kd.R_lit (Kd.int .u8) _ 5 ?hg (N := 12) ?hd (xs := ([(a0_0) % 256] : List Int)) (inner := [.int .u8 ((a0_0) % 256)]) (ok := fun _ => True) (okp := fun _ => True) ?hr ?hp (fun _ hk => hk) trivial (Below.refl _ _) (Nat.le_refl _) (by simp) ?_; (case hd => rfl); (case hg => rfl); (case hr => first | (go_simp; done) | (go_simp; rfl)); (case hp => exact (Reps.one (show Kd.M (Kd.int .u8) _ _ _ ((a0_0) % 256) [.int .u8 ((a0_0) % 256)] from rfl) (Reps.none _ _))); intro v186 w25 ho26 hb hg_ hnew_; clear hg_ hnew_; (first | rw [← Ny185.out] at ho26 | (simp only [Int.reduceToNat] at ho26; rw [← Ny185.out] at ho26)); have _ := aM (Kd.R_lower (Kd.R_newM (M := fun k_ => (w.heap.size ≤ k_)) ho26 (below_size (bS HB.out)) (fun k_ h_ => h_)) (below_size (bS HB.out))); have _ := aM (kB BK180.out hb); have _ := aM (below_step (bS HB.out) hb); clear BK180 HB; rename_i HO187 BK180 HB; clear hb ho26; obtain ⟨hcz27_0, hfz27_0, hcz27_1, hfz27_1, hcz27_2, hfz27_2, hcz27_3, hfz27_3, hcz27_4, hfz27_4, hcz27_5, hfz27_5⟩ := bk6 BK180.out; obtain ⟨Ao28, co28, eo28⟩ := Kd.R_slice HO187.out; subst eo28) | ((with_reducible refine gate_callee (f := 35) rfl ?_); refine gL (some 15) rfl rfl Try.func35 (by kernel_rfl) rfl #[.slice Ao28 y185.length co28, .int .i64 a0_1] rfl ?_; (with_reducible refine (spec_PutWord.calls _ _ y185 a0_1 t188 _ ?side1 ?side2 A4.out).mono ?_); (case side1 => exact cR HO187.out); (case side2 => exact (Kd.R_reads' HO187.out).2.1); rintro e w29 ⟨v189, rfl, ho0, hb⟩; refine ⟨_, rfl, ?_⟩; have _ := aM (Kd.R_elder' (rA HO187.out) (Kd.R_base ho0) hb); have _ := aM (Kd.R_lower (Kd.R_new' (Kd.R_newM (M := fun k_ => (w.heap.size ≤ k_)) ho0 (below_size (bS HB.out)) (fun k_ h_ => h_)) (Kd.R_lt (rA HO187.out))) (below_size (bS HB.out))); have _ := aM (kB BK180.out hb); have _ := aM (below_step (bS HB.out) hb); clear HO187 BK180 HB; rename_i HO187 HO190 BK180 HB; (try clear hb); (try clear ho0); obtain ⟨hcz30_0, hfz30_0, hcz30_1, hfz30_1, hcz30_2, hfz30_2, hcz30_3, hfz30_3, hcz30_4, hfz30_4, hcz30_5, hfz30_5⟩ := bk6 BK180.out))
   (try simp only [Act.put, List.setIfInBounds_toArray, List.set_cons_zero, List.set_cons_succ])
   go_cut [26] (fun v26 wc => ∃ (kq : Nat) (x26_19 : Bool), v26 = .bool x26_19 ∧ Aside0 (spec_PutReq.j0 kq t188 a0_0 x26_19 a0_0 a0_1 a0_2 l0_3 l0_4 a0_5 = some r) ∧ Aside0 (kq ≤ k) ∧ Aside0 (Kd.R (Kd.int .u8) 5 wc w.heap.size (fun k_ => (w.heap.size ≤ k_)) v189 t188) ∧ Aside0 (wc.heap[gb180]? = some (.cells #[.int .i64 a0_0, .int .i64 a0_1, .int .i64 a0_2, (.slice A0_3 l0_3.length c0_3), (.slice A0_4 l0_4.length c0_4), .int .i64 a0_5] 29 (0, 0))) ∧ Aside0 (Below w.heap.size w wc))
   case first =>
    have H := HC20.out
    clear HC20
    by_cases c31 : a0_0 = 6
    ·rw [if_pos c31] at H
     have c31b0 : (a0_0 == 6) = true := beq_iff_eq.mpr c31
     have c31b1 : (a0_0 != 6) = false := bne_eq_false_iff_eq.mpr c31
     clear c31
     (first | rw [c31b0] | (simp only [i64_w, i32_w]; rw [c31b0]) | skip)
     have H' := aM H
     clear H
     go_wp2
     go_meet
     case rel => exact ⟨_, ((a0_0 == 6)), (by first | rfl | (simp; done) | (simp [*]; done)), H', ⟨by first | omega | exact Nat.le_refl _⟩, ⟨by (with_reducible repeat (first | apply Kd.R_alloc | apply Kd.R_drewN | apply Kd.R_drew)); exact Kd.R_mono HO190.out (fun _ hk => hk.1.1)⟩, ⟨kX BK180.out⟩, ⟨bS HB.out⟩⟩
    ·rw [if_neg c31] at H
     have c31b0 : (a0_0 == 6) = false := beq_eq_false_iff_ne.mpr c31
     have c31b1 : (a0_0 != 6) = true := bne_iff_ne.mpr c31
     (first | rw [c31b0] | (simp only [i64_w, i32_w]; rw [c31b0]) | skip)
     have H' := aM H
     clear H
     go_wp2
     go_meet
     case rel => exact ⟨_, ((a0_0 == 22)), (by first | rfl | (simp; done) | (simp [*]; done)), H', ⟨by first | omega | exact Nat.le_refl _⟩, ⟨by (with_reducible repeat (first | apply Kd.R_alloc | apply Kd.R_drewN | apply Kd.R_drew)); exact Kd.R_mono HO190.out (fun _ hk => hk.1.1)⟩, ⟨kX BK180.out⟩, ⟨bS HB.out⟩⟩
   case rest =>
    clear HC20
    try clear c3
    try clear c5
    try clear c5b0
    try clear c5b1
    try clear c6
    try clear c6b0
    try clear c6b1
    try clear hcz11_0
    try clear hcz11_1
    try clear hcz11_2
    try clear hcz11_3
    try clear hcz11_4
    try clear hcz11_5
    try clear hcz14_0
    try clear hcz14_1
    try clear hcz14_2
    try clear hcz14_3
    try clear hcz14_4
    try clear hcz14_5
    try clear hcz17_0
    try clear hcz17_1
    try clear hcz17_2
    try clear hcz17_3
    try clear hcz17_4
    try clear hcz17_5
    try clear hcz22_0
    try clear hcz22_1
    try clear hcz22_2
    try clear hcz22_3
    try clear hcz22_4
    try clear hcz22_5
    try clear hcz24_0
    try clear hcz24_1
    try clear hcz24_2
    try clear hcz24_3
    try clear hcz24_4
    try clear hcz24_5
    try clear hcz27_0
    try clear hcz27_1
    try clear hcz27_2
    try clear hcz27_3
    try clear hcz27_4
    try clear hcz27_5
    try clear hcz30_0
    try clear hcz30_1
    try clear hcz30_2
    try clear hcz30_3
    try clear hcz30_4
    try clear hcz30_5
    try clear hcz9_0
    try clear hcz9_1
    try clear hcz9_2
    try clear hcz9_3
    try clear hcz9_4
    try clear hcz9_5
    try clear hfz11_0
    try clear hfz11_1
    try clear hfz11_2
    try clear hfz11_3
    try clear hfz11_4
    try clear hfz11_5
    try clear hfz14_0
    try clear hfz14_1
    try clear hfz14_2
    try clear hfz14_3
    try clear hfz14_4
    try clear hfz14_5
    try clear hfz17_0
    try clear hfz17_1
    try clear hfz17_2
    try clear hfz17_3
    try clear hfz17_4
    try clear hfz17_5
    try clear hfz22_0
    try clear hfz22_1
    try clear hfz22_2
    try clear hfz22_3
    try clear hfz22_4
    try clear hfz22_5
    try clear hfz24_0
    try clear hfz24_1
    try clear hfz24_2
    try clear hfz24_3
    try clear hfz24_4
    try clear hfz24_5
    try clear hfz27_0
    try clear hfz27_1
    try clear hfz27_2
    try clear hfz27_3
    try clear hfz27_4
    try clear hfz27_5
    try clear hfz30_0
    try clear hfz30_1
    try clear hfz30_2
    try clear hfz30_3
    try clear hfz30_4
    try clear hfz30_5
    try clear hfz9_0
    try clear hfz9_1
    try clear hfz9_2
    try clear hfz9_3
    try clear hfz9_4
    try clear hfz9_5
    try clear hx191_0
    try clear p191
    try clear q191
    obtain ⟨kq, x26_19, rfl, HA, HJ19, HO_3, BK180, HB⟩ := hcut
    cases kq with
    | zero => exact absurd HA.out (by simp [spec_PutReq.j0])
    | succ kj19 =>
     have H := HA.out
     clear HA
     simp only [spec_PutReq.j0] at H
     obtain ⟨jz, hjz⟩ : ∃ j_ : Int, wrap64 (2 * (l0_3.length : Int)) = j_ := ⟨_, rfl⟩
     have hjzw : IntKind.i64.wrap (2 * (l0_3.length : Int)) = jz := (i64_w _).trans hjz
     try simp only [hjz] at H
     by_cases c32 : x26_19 = true
     ·subst c32
      have H1 : ((spec_l3PutWords.f kj19 t188 l0_3).bind fun t195 => (some t195)) = some r := by rw [if_pos rfl] at H; exact H
      clear H
      have H := H1
      clear H1
      replace H := Option.bind_eq_some_iff.mp H
      obtain ⟨t195, A330, H⟩ := H
      replace H : (some t195) = some r := H
      have A33 := aM A330
      clear A330
      obtain rfl := Option.some.inj H
      obtain ⟨hcz34_0, hfz34_0, hcz34_1, hfz34_1, hcz34_2, hfz34_2, hcz34_3, hfz34_3, hcz34_4, hfz34_4, hcz34_5, hfz34_5⟩ := bk6 BK180.out
      obtain ⟨Ao35, co35, eo35⟩ := Kd.R_slice HO_3.out
      subst eo35
      go_wp2_with (first | ((with_reducible refine gate_callee (f := 37) rfl ?_); refine gL (some 32) rfl rfl Try.func37 (by kernel_rfl) rfl #[.slice Ao35 t188.length co35, .slice A0_3 l0_3.length c0_3] rfl ?_; (with_reducible refine (spec_l3PutWords.calls kj19 (fun k_ => some k_ = (.slice Ao35 t188.length co35 : Value).ownBlock) _ _ t188 _ _ l0_3 t195 _ ?side1 ?side2 ?side3 A33.out).mono ?_); (case side1 => exact Kd.R_V (Kd.R_tight rfl (Kd.R_types (HO_3.out) BK180.out (by decide)))); (case side2 => exact cB HR0_3.out HB.out); (case side3 => exact HC0_3.out); rintro e w36 ⟨v196, rfl, ho0, hb⟩; refine ⟨_, rfl, ?_⟩; have _ := aM (rB HO_3.out hb); have _ := aM (Kd.V_lower (Kd.V_mono (ok' := fun k_ => (w.heap.size ≤ k_) ∧ k_ ≠ gb180) ho0 (fun k_ hk_ => ⟨Or.elim hk_ (fun hs_ => ((Kd.R_types (HO_3.out) BK180.out (by decide)).1 k_ hs_.symm).1) (fun hn_ => (Nat.le_trans (below_size (bS HB.out)) hn_)), Or.elim hk_ (fun hs_ => ((Kd.R_types (HO_3.out) BK180.out (by decide)).1 k_ hs_.symm).2) (fun hn_ => (Kd.freshB (g := gb180) (o := .cells #[.int .i64 a0_0, .int .i64 a0_1, .int .i64 a0_2, .slice A0_3 l0_3.length c0_3, .slice A0_4 l0_4.length c0_4, .int .i64 a0_5] 29 (0, 0)) (kA BK180.out) k_ hn_))⟩)) (below_size (bS HB.out))); have _ := aM (kB BK180.out hb); have _ := aM (below_step (bS HB.out) hb); clear HO_3 BK180 HB; rename_i HO_3 HO197 BK180 HB; (try clear hb); (try clear ho0)))
      go_ret
      exact ⟨_, by first | rfl | (simp [errW_none, errW_some] <;> rfl) | (simp [*, errW_none, errW_some] <;> rfl), by (with_reducible repeat (first | apply Kd.V_alloc | apply Kd.V_drewN | apply Kd.V_drew)); exact Kd.V_mono HO197.out (fun _ hk => hk.1), bS HB.out⟩
     ·replace c32 := Bool.eq_false_iff.mpr c32
      subst c32
      have H1 : (if a0_0 = 15 then ((spec_PackBits.f kj19 l0_4).bind fun t198 => ((spec_PutWord.f t188 (l0_4.length : Int)).bind fun t201 => ((some (([((t198.length : Int)) % 256] : List Int) : List Int)).bind fun y204 => (if t201.length + y204.length < 140737488355328 then ((some (t201 ++ y204 : List Int)).bind fun y207 => (if y207.length + t198.length < 140737488355328 then (some (y207 ++ t198)) else (none))) else (none))))) else (if a0_0 = 16 then ((spec_PutWord.f t188 (l0_3.length : Int)).bind fun t213 => ((some (([(jz) % 256] : List Int) : List Int)).bind fun y216 => (if t213.length + y216.length < 140737488355328 then ((spec_l3PutWords.f kj19 (t213 ++ y216) l0_3).bind fun t222 => (some t222)) else (none)))) else (if a0_0 = 23 then ((spec_PutWord.f t188 a0_2).bind fun t225 => ((spec_PutWord.f t225 a0_5).bind fun t228 => ((spec_PutWord.f t228 (l0_3.length : Int)).bind fun t231 => ((some (([(jz) % 256] : List Int) : List Int)).bind fun y234 => (if t231.length + y234.length < 140737488355328 then ((spec_l3PutWords.f kj19 (t231 ++ y234) l0_3).bind fun t240 => (some t240)) else (none)))))) else ((spec_PutWord.f t188 a0_2).bind fun t243 => (some t243))))) = some r := by rw [if_neg (show ¬ (false = true) by decide)] at H; exact H
      clear H
      have H := H1
      clear H1
      by_cases c37 : a0_0 = 15
      ·rw [if_pos c37] at H
       have c37b0 : (a0_0 == 15) = true := beq_iff_eq.mpr c37
       have c37b1 : (a0_0 != 15) = false := bne_eq_false_iff_eq.mpr c37
       clear c37
       replace H := Option.bind_eq_some_iff.mp H
       obtain ⟨t198, A380, H⟩ := H
       replace H : ((spec_PutWord.f t188 (l0_4.length : Int)).bind fun t201 => ((some (([((t198.length : Int)) % 256] : List Int) : List Int)).bind fun y204 => (if t201.length + y204.length < 140737488355328 then ((some (t201 ++ y204 : List Int)).bind fun y207 => (if y207.length + t198.length < 140737488355328 then (some (y207 ++ t198)) else (none))) else (none)))) = some r := H
       have A38 := aM A380
       clear A380
       replace H := Option.bind_eq_some_iff.mp H
       obtain ⟨t201, A390, H⟩ := H
       replace H : ((some (([((t198.length : Int)) % 256] : List Int) : List Int)).bind fun y204 => (if t201.length + y204.length < 140737488355328 then ((some (t201 ++ y204 : List Int)).bind fun y207 => (if y207.length + t198.length < 140737488355328 then (some (y207 ++ t198)) else (none))) else (none))) = some r := H
       have A39 := aM A390
       clear A390
       obtain ⟨y204, hy204⟩ : ∃ y_ : List Int, y_ = (([((t198.length : Int)) % 256] : List Int)) := ⟨_, rfl⟩
       replace H : (if t201.length + y204.length < 140737488355328 then ((some (t201 ++ y204 : List Int)).bind fun y207 => (if y207.length + t198.length < 140737488355328 then (some (y207 ++ t198)) else (none))) else (none)) = some r := by first | (rw [hy204]; with_reducible exact H) | (have H2_ := (Option.bind_some _ _).symm.trans H; rw [hy204]; with_reducible exact H2_) | (have H2_ := (Option.bind_some _ _).symm.trans H; with_reducible exact H2_) | with_reducible exact H | (rw [hy204]; exact H) | exact H
       have Ny204 := aM hy204
       clear hy204
       by_cases c40 : t201.length + y204.length < 140737488355328
       ·rw [if_pos c40] at H
        have LMc40 := aM c40
        clear c40
        obtain ⟨y207, hy207⟩ : ∃ y_ : List Int, y_ = (t201 ++ y204) := ⟨_, rfl⟩
        replace H : (if y207.length + t198.length < 140737488355328 then (some (y207 ++ t198)) else (none)) = some r := by first | (rw [hy207]; with_reducible exact H) | (have H2_ := (Option.bind_some _ _).symm.trans H; rw [hy207]; with_reducible exact H2_) | (have H2_ := (Option.bind_some _ _).symm.trans H; with_reducible exact H2_) | with_reducible exact H | (rw [hy207]; exact H) | exact H
        have Ny207 := aM hy207
        clear hy207
        by_cases c41 : y207.length + t198.length < 140737488355328
        ·rw [if_pos c41] at H
         have LMc41 := aM c41
         clear c41
         obtain ⟨y210, hy210⟩ : ∃ y_ : List Int, y_ = (y207 ++ t198) := ⟨_, rfl⟩
         replace H : (some y210) = some r := by first | (rw [hy210]; with_reducible exact H) | (have H2_ := (Option.bind_some _ _).symm.trans H; rw [hy210]; with_reducible exact H2_) | (have H2_ := (Option.bind_some _ _).symm.trans H; with_reducible exact H2_) | with_reducible exact H | (rw [hy210]; exact H) | exact H
         have Ny210 := aM hy210
         clear hy210
         obtain rfl := Option.some.inj H
         obtain ⟨hcz42_0, hfz42_0, hcz42_1, hfz42_1, hcz42_2, hfz42_2, hcz42_3, hfz42_3, hcz42_4, hfz42_4, hcz42_5, hfz42_5⟩ := bk6 BK180.out
         go_wp2_with (first | ((with_reducible refine gate_callee (f := 38) rfl ?_); refine gL (some 37) rfl rfl Try.func38 (by kernel_rfl) rfl #[.slice A0_4 l0_4.length c0_4] rfl ?_; (with_reducible refine (spec_PackBits.calls kj19 _ _ l0_4 t198 _ ?side1 ?side2 A38.out).mono ?_); (case side1 => exact cB HR0_4.out HB.out); (case side2 => exact HC0_4.out); rintro e w43 ⟨v199, rfl, ho0, hb⟩; refine ⟨_, rfl, ?_⟩; have _ := aM (Kd.R_elder' (rA HO_3.out) (Kd.R_base ho0) hb); have _ := aM (Kd.R_lower (Kd.R_new' (Kd.R_newM (M := fun k_ => (w.heap.size ≤ k_)) ho0 (below_size (bS HB.out)) (fun k_ h_ => h_)) (Kd.R_lt (rA HO_3.out))) (below_size (bS HB.out))); have _ := aM (kB BK180.out hb); have _ := aM (below_step (bS HB.out) hb); clear HO_3 BK180 HB; rename_i HO_3 HO200 BK180 HB; (try clear hb); (try clear ho0); obtain ⟨hcz44_0, hfz44_0, hcz44_1, hfz44_1, hcz44_2, hfz44_2, hcz44_3, hfz44_3, hcz44_4, hfz44_4, hcz44_5, hfz44_5⟩ := bk6 BK180.out; obtain ⟨Ao45, co45, eo45⟩ := Kd.R_slice HO_3.out; subst eo45) | ((with_reducible refine gate_callee (f := 35) rfl ?_); refine gL (some 42) rfl rfl Try.func35 (by kernel_rfl) rfl #[.slice Ao45 t188.length co45, .int .i64 (l0_4.length : Int)] rfl ?_; (with_reducible refine (spec_PutWord.calls _ _ t188 (l0_4.length : Int) t201 _ ?side1 ?side2 A39.out).mono ?_); (case side1 => exact cR HO_3.out); (case side2 => exact (Kd.R_reads' HO_3.out).2.1); rintro e w46 ⟨v202, rfl, ho0, hb⟩; refine ⟨_, rfl, ?_⟩; have _ := aM (Kd.R_elder' (rA HO_3.out) (Kd.R_base ho0) hb); have _ := aM (Kd.R_elder' (rA HO200.out) (Kd.R_base ho0) hb); have _ := aM (Kd.R_lower (Kd.R_new' (Kd.R_new' (Kd.R_newM (M := fun k_ => (w.heap.size ≤ k_)) ho0 (below_size (bS HB.out)) (fun k_ h_ => h_)) (Kd.R_lt (rA HO_3.out))) (Kd.R_lt (rA HO200.out))) (below_size (bS HB.out))); have _ := aM (kB BK180.out hb); have _ := aM (below_step (bS HB.out) hb); clear HO_3 HO200 BK180 HB; rename_i HO_3 HO200 HO203 BK180 HB; (try clear hb); (try clear ho0); obtain ⟨Ao47, co47, eo47⟩ := Kd.R_slice HO200.out; subst eo47) | ((with_reducible refine gate_dst (N := 46) rfl ?_); refine Kd.R_lit (Kd.int .u8) _ 5 ?hg (N := 46) ?hd (xs := ([((t198.length : Int)) % 256] : List Int)) (inner := [.int .u8 (((t198.length : Int)) % 256)]) (ok := fun _ => True) (okp := fun _ => True) ?hr ?hp (fun _ hk => hk) trivial (Below.refl _ _) (Nat.le_refl _) (by simp) ?_; (case hd => rfl); (case hg => rfl); (case hr => first | (go_simp; done) | (go_simp; rfl)); (case hp => exact (Reps.one (show Kd.M (Kd.int .u8) _ _ _ (((t198.length : Int)) % 256) [.int .u8 (((t198.length : Int)) % 256)] from rfl) (Reps.none _ _))); intro v205 w48 ho49 hb hg_ hnew_; clear hg_ hnew_; (first | rw [← Ny204.out] at ho49 | (simp only [Int.reduceToNat] at ho49; rw [← Ny204.out] at ho49)); have _ := aM (Kd.R_elder' (rA HO_3.out) (Kd.R_base ho49) hb); have _ := aM (Kd.R_elder' (rA HO200.out) (Kd.R_base ho49) hb); have _ := aM (Kd.R_elder' (rA HO203.out) (Kd.R_base ho49) hb); have _ := aM (Kd.R_lower (Kd.R_new' (Kd.R_new' (Kd.R_new' (Kd.R_newM (M := fun k_ => (w.heap.size ≤ k_)) ho49 (below_size (bS HB.out)) (fun k_ h_ => h_)) (Kd.R_lt (rA HO_3.out))) (Kd.R_lt (rA HO200.out))) (Kd.R_lt (rA HO203.out))) (below_size (bS HB.out))); have _ := aM (kB BK180.out hb); have _ := aM (below_step (bS HB.out) hb); clear HO_3 HO200 HO203 BK180 HB; rename_i HO_3 HO200 HO203 HO206 BK180 HB; clear hb ho49; obtain ⟨Ao51, co51, eo51⟩ := Kd.R_slice HO206.out; subst eo51) | ((with_reducible refine gate_builtin (b := .append) (xs := #[.tmp 42, .tmp 46]) rfl ?_); at_builtin; refine Kd.R_append_rows (Kd.int .u8) (w0 := w) w.heap.size rfl (.tmp 42) (.tmp 46) 33 5 (.int .u8 0) 1 rfl Try.underlying33 info5 rfl (by decide) (by omega) v202 t201 y204 _ _ _ (fun k_ => (w.heap.size ≤ k_) ∧ some k_ ≠ (.slice Ao45 t188.length co45 : Value).ownBlock ∧ some k_ ≠ (.slice Ao47 t198.length co47 : Value).ownBlock ∧ some k_ ≠ (.slice Ao51 y204.length co51 : Value).ownBlock) (fun _ => False) rfl rfl ?aO ?aR (fun _ _ h => h) (fun _ h => h.elim) ?aF ?aB ?aS ?aL ?_; (case aR => repeat (first | exact (Kd.R_reads' HO206.out).2.2 | (with_reducible refine Kd.C_alloc ?_ _) | (with_reducible refine Kd.C_drewN ?_ _) | (with_reducible refine Kd.C_drew ?_))); (case aB => exact (bS HB.out)); (case aF => exact (fun k_ hk => ⟨(Nat.le_trans (below_size (bS HB.out)) hk), Kd.fresh' (Kd.R_lt (rA HO_3.out)) k_ hk, Kd.fresh' (Kd.R_lt (rA HO200.out)) k_ hk, Kd.fresh' (Kd.R_lt (rA HO206.out)) k_ hk⟩)); (case aO => exact (by (with_reducible repeat (first | apply Kd.R_alloc | apply Kd.R_drewN | apply Kd.R_drew)); exact Kd.R_mono HO203.out (fun _ hk => by first | exact ⟨hk.1.1.1.1, ⟨hk.1.1.2, ⟨hk.1.2, hk.2⟩⟩⟩ | (simp only [ne_eq] at hk ⊢; simp [hk])))); (case aS => exact (below_size (bS HB.out))); (case aL => have := LMc40.out; omega); intro v208 w50 ho hb hg hat; rw [← Ny207.out] at ho; have _ := aM (Kd.R_after (ok := (fun k_ => (w.heap.size ≤ k_) ∧ some k_ ≠ (.slice Ao47 t198.length co47 : Value).ownBlock ∧ some k_ ≠ (.slice Ao51 y204.length co51 : Value).ownBlock)) (by (with_reducible repeat (first | apply Kd.R_alloc | apply Kd.R_drewN | apply Kd.R_drew)); exact Kd.R_mono HO_3.out (fun _ hk => by first | exact ⟨⟨hk.1.1.1, ⟨hk.1.1.2, hk.2⟩⟩, hk.1.2⟩ | (simp only [ne_eq] at hk ⊢; simp [hk]))) hg hat); have _ := aM (blk_grown (g := gb180) (o := .cells #[.int .i64 a0_0, .int .i64 a0_1, .int .i64 a0_2, .slice A0_3 l0_3.length c0_3, .slice A0_4 l0_4.length c0_4, .int .i64 a0_5] 29 (0, 0)) (kA BK180.out) hg (Kd.R_ne HO203.out BK180.out (by decide))); have _ := aM (Kd.R_after (ok := (fun k_ => (w.heap.size ≤ k_) ∧ some k_ ≠ (.slice Ao45 t188.length co45 : Value).ownBlock ∧ some k_ ≠ (.slice Ao51 y204.length co51 : Value).ownBlock)) (by (with_reducible repeat (first | apply Kd.R_alloc | apply Kd.R_drewN | apply Kd.R_drew)); exact Kd.R_mono HO200.out (fun _ hk => by first | exact ⟨⟨hk.1.1.1.1, ⟨hk.1.1.2, hk.2⟩⟩, hk.1.2⟩ | (simp only [ne_eq] at hk ⊢; simp [hk]))) hg hat); have _ := aM (Kd.R_after (ok := (fun k_ => (w.heap.size ≤ k_) ∧ some k_ ≠ (.slice Ao45 t188.length co45 : Value).ownBlock ∧ some k_ ≠ (.slice Ao47 t198.length co47 : Value).ownBlock)) (by (with_reducible repeat (first | apply Kd.R_alloc | apply Kd.R_drewN | apply Kd.R_drew)); exact Kd.R_mono HO206.out (fun _ hk => by first | exact ⟨⟨hk.1.1.1.1, ⟨hk.1.1.2, hk.1.2⟩⟩, hk.2⟩ | (simp only [ne_eq] at hk ⊢; simp [hk]))) hg hat); have _ := aM (hb); have _ := aM (ho); clear HO_3 BK180 HO200 HO206 HB HO203; rename_i HO_3 BK180 HO200 HO206 HB HO209; clear ho hb hg hat) | ((with_reducible refine gate_builtin (b := .append) (xs := #[.tmp 47, .tmp 48]) rfl ?_); at_builtin; refine Kd.R_append_rows (Kd.int .u8) (w0 := w) w.heap.size rfl (.tmp 47) (.tmp 48) 33 5 (.int .u8 0) 1 rfl Try.underlying33 info5 rfl (by decide) (by omega) v208 y207 t198 _ _ _ (fun k_ => (w.heap.size ≤ k_) ∧ some k_ ≠ (.slice Ao45 t188.length co45 : Value).ownBlock ∧ some k_ ≠ (.slice Ao47 t198.length co47 : Value).ownBlock ∧ some k_ ≠ (.slice Ao51 y204.length co51 : Value).ownBlock) (fun _ => False) rfl rfl ?aO ?aR (fun _ _ h => h) (fun _ h => h.elim) ?aF ?aB ?aS ?aL ?_; (case aR => repeat (first | exact (Kd.R_reads' HO200.out).2.2 | (with_reducible refine Kd.C_alloc ?_ _) | (with_reducible refine Kd.C_drewN ?_ _) | (with_reducible refine Kd.C_drew ?_))); (case aB => exact (bS HB.out)); (case aF => exact (fun k_ hk => ⟨(Nat.le_trans (below_size (bS HB.out)) hk), Kd.fresh' (Kd.R_lt (rA HO_3.out)) k_ hk, Kd.fresh' (Kd.R_lt (rA HO200.out)) k_ hk, Kd.fresh' (Kd.R_lt (rA HO206.out)) k_ hk⟩)); (case aO => exact (rA HO209.out)); (case aS => exact (below_size (bS HB.out))); (case aL => have := LMc41.out; omega); intro v211 w52 ho hb hg hat; rw [← Ny210.out] at ho; have _ := aM (Kd.R_after (ok := (fun k_ => (w.heap.size ≤ k_) ∧ some k_ ≠ (.slice Ao47 t198.length co47 : Value).ownBlock ∧ some k_ ≠ (.slice Ao51 y204.length co51 : Value).ownBlock)) (rA HO_3.out) hg hat); have _ := aM (blk_grown (g := gb180) (o := .cells #[.int .i64 a0_0, .int .i64 a0_1, .int .i64 a0_2, .slice A0_3 l0_3.length c0_3, .slice A0_4 l0_4.length c0_4, .int .i64 a0_5] 29 (0, 0)) (kA BK180.out) hg (Kd.R_ne HO209.out BK180.out (by decide))); have _ := aM (Kd.R_after (ok := (fun k_ => (w.heap.size ≤ k_) ∧ some k_ ≠ (.slice Ao45 t188.length co45 : Value).ownBlock ∧ some k_ ≠ (.slice Ao51 y204.length co51 : Value).ownBlock)) (rA HO200.out) hg hat); have _ := aM (Kd.R_after (ok := (fun k_ => (w.heap.size ≤ k_) ∧ some k_ ≠ (.slice Ao45 t188.length co45 : Value).ownBlock ∧ some k_ ≠ (.slice Ao47 t198.length co47 : Value).ownBlock)) (rA HO206.out) hg hat); have _ := aM (hb); have _ := aM (ho); clear HO_3 BK180 HO200 HO206 HB HO209; rename_i HO_3 BK180 HO200 HO206 HB HO212; clear ho hb hg hat))
         go_ret
         exact ⟨_, by first | rfl | (simp [errW_none, errW_some] <;> rfl) | (simp [*, errW_none, errW_some] <;> rfl), Kd.R_V (by (with_reducible repeat (first | apply Kd.R_alloc | apply Kd.R_drewN | apply Kd.R_drew)); exact Kd.R_mono HO212.out (fun _ hk => hk.1)), bS HB.out⟩
        ·rw [if_neg c41] at H
         exact absurd H (by simp)
       ·rw [if_neg c40] at H
        exact absurd H (by simp)
      ·rw [if_neg c37] at H
       have c37b0 : (a0_0 == 15) = false := beq_eq_false_iff_ne.mpr c37
       have c37b1 : (a0_0 != 15) = true := bne_iff_ne.mpr c37
       by_cases c53 : a0_0 = 16
       ·rw [if_pos c53] at H
        have c53b0 : (a0_0 == 16) = true := beq_iff_eq.mpr c53
        have c53b1 : (a0_0 != 16) = false := bne_eq_false_iff_eq.mpr c53
        clear c53
        replace H := Option.bind_eq_some_iff.mp H
        obtain ⟨t213, A540, H⟩ := H
        replace H : ((some (([(jz) % 256] : List Int) : List Int)).bind fun y216 => (if t213.length + y216.length < 140737488355328 then ((spec_l3PutWords.f kj19 (t213 ++ y216) l0_3).bind fun t222 => (some t222)) else (none))) = some r := H
        have A54 := aM A540
        clear A540
        obtain ⟨y216, hy216⟩ : ∃ y_ : List Int, y_ = (([(jz) % 256] : List Int)) := ⟨_, rfl⟩
        replace H : (if t213.length + y216.length < 140737488355328 then ((spec_l3PutWords.f kj19 (t213 ++ y216) l0_3).bind fun t222 => (some t222)) else (none)) = some r := by first | (rw [hy216]; with_reducible exact H) | (have H2_ := (Option.bind_some _ _).symm.trans H; rw [hy216]; with_reducible exact H2_) | (have H2_ := (Option.bind_some _ _).symm.trans H; with_reducible exact H2_) | with_reducible exact H | (rw [hy216]; exact H) | exact H
        have Ny216 := aM hy216
        clear hy216
        by_cases c55 : t213.length + y216.length < 140737488355328
        ·rw [if_pos c55] at H
         have LMc55 := aM c55
         clear c55
         obtain ⟨y219, hy219⟩ : ∃ y_ : List Int, y_ = (t213 ++ y216) := ⟨_, rfl⟩
         replace H : ((spec_l3PutWords.f kj19 y219 l0_3).bind fun t222 => (some t222)) = some r := by first | (rw [hy219]; with_reducible exact H) | (have H2_ := (Option.bind_some _ _).symm.trans H; rw [hy219]; with_reducible exact H2_) | (have H2_ := (Option.bind_some _ _).symm.trans H; with_reducible exact H2_) | with_reducible exact H | (rw [hy219]; exact H) | exact H
         have Ny219 := aM hy219
         clear hy219
         replace H := Option.bind_eq_some_iff.mp H
         obtain ⟨t222, A560, H⟩ := H
         replace H : (some t222) = some r := H
         have A56 := aM A560
         clear A560
         obtain rfl := Option.some.inj H
         obtain ⟨Ao57, co57, eo57⟩ := Kd.R_slice HO_3.out
         subst eo57
         try go_wp2
         have n0_ := aM (Kd.R_drew HO_3.out)
         have n1_ := aM (blk_drew BK180.out)
         have n2_ := aM (below_drew1 HB.out)
         clear HO_3
         clear BK180
         clear HB
         have HO_3 := n0_
         have BK180 := n1_
         have HB := n2_
         clear n0_ n1_ n2_
         refine start_ (n := 16) (S := fun w' => w'.cell? ⟨gb180, 0, none⟩ = some (.int .i64 a0_0) ∧ w'.cell? ⟨gb180, 1, none⟩ = some (.int .i64 a0_1) ∧ w'.cell? ⟨gb180, 2, none⟩ = some (.int .i64 a0_2) ∧ w'.cell? ⟨gb180, 3, none⟩ = some (.slice A0_3 l0_3.length c0_3) ∧ w'.cell? ⟨gb180, 4, none⟩ = some (.slice A0_4 l0_4.length c0_4) ∧ w'.cell? ⟨gb180, 5, none⟩ = some (.int .i64 a0_5)) (ds := []) #[false, false, false, false, false, false, false, false, false, false, false, false, false, false, false, false] (by kernel_rfl) rfl rfl ⟨(blk_cell BK180.out 0).trans rfl, (blk_cell BK180.out 1).trans rfl, (blk_cell BK180.out 2).trans rfl, (blk_cell BK180.out 3).trans rfl, (blk_cell BK180.out 4).trans rfl, (blk_cell BK180.out 5).trans rfl⟩ (fun hHeld => ?_); refine with_tabW spec_PutReq.tab14 spec_PutReq.bits14 (fun HT_ HW_ => ?_)
         generalize wc.drew = w58 at HO_3 BK180 HB hHeld ⊢
         refine pure_ (i := 0) (N := some 52) (v := ?_) (a' := ?_) #[true, false, false, false, false, false, false, false, false, false, false, false, false, false, false, false] rfl rfl (any_of HT_.out (by kernel_rfl)) (fun _ _ _ h => h) (Or.inl ⟨by rfl, ?_⟩) ?_ ?_
         rotate_left
         ·intro w'
          go_simp
          with_reducible rfl
         rotate_left
         ·simp only [Act.put, List.setIfInBounds_toArray, List.set_cons_zero, List.set_cons_succ, i64_w, i32_w]
          rfl
         refine pure_ (i := 1) (N := some 53) (v := ?_) (a' := ?_) #[true, true, false, false, false, false, false, false, false, false, false, false, false, false, false, false] rfl rfl (any_of HT_.out (by kernel_rfl)) (fun _ _ _ h => h) (Or.inl ⟨by rfl, ?_⟩) ?_ ?_
         rotate_left
         ·intro w'
          go_simp
          with_reducible rfl
         rotate_left
         ·simp only [Act.put, List.setIfInBounds_toArray, List.set_cons_zero, List.set_cons_succ, i64_w, i32_w]
          rfl
         refine pure_ (i := 5) (N := some 57) (v := ?_) (a' := ?_) #[true, true, false, false, false, true, false, false, false, false, false, false, false, false, false, false] rfl rfl (any_of HT_.out (by kernel_rfl)) (fun _ _ _ h => h) (Or.inl ⟨by rfl, ?_⟩) ?_ ?_
         rotate_left
         ·intro w'
          go_simp
          with_reducible rfl
         rotate_left
         ·simp only [Act.put, List.setIfInBounds_toArray, List.set_cons_zero, List.set_cons_succ, i64_w, i32_w]
          rfl
         refine pure_ (i := 12) (N := some 64) (v := ?_) (a' := ?_) #[true, true, false, false, false, true, false, false, false, false, false, false, true, false, false, false] rfl rfl (any_of HT_.out (by kernel_rfl)) (fun _ _ _ h => h) (Or.inl ⟨by rfl, ?_⟩) ?_ ?_
         rotate_left
         ·intro w'
          go_simp
          with_reducible rfl
         rotate_left
         ·simp only [Act.put, List.setIfInBounds_toArray, List.set_cons_zero, List.set_cons_succ, i64_w, i32_w]
          rfl
         refine take_ (i := 2) (N := some 54) (v := ?_) (a' := ?_) #[true, true, true, false, false, true, false, false, false, false, false, false, true, false, false, false] rfl rfl (take_ofW HT_.out HW_.out (by kernel_rfl)) (fun _ _ _ h => h) (Or.inl ⟨by rfl, ?_⟩) hHeld ?_ ?_
         rotate_left
         ·rintro w' ⟨s0, s1, s2, s3, s4, s5⟩
          go_simp
          with_reducible rfl
         rotate_left
         ·simp only [Act.put, List.setIfInBounds_toArray, List.set_cons_zero, List.set_cons_succ, i64_w, i32_w]
          rfl
         refine pure_ (i := 3) (N := some 55) (v := ?_) (a' := ?_) #[true, true, true, true, false, true, false, false, false, false, false, false, true, false, false, false] rfl rfl (any_of HT_.out (by kernel_rfl)) (fun _ _ _ h => h) (Or.inl ⟨by rfl, ?_⟩) ?_ ?_
         rotate_left
         ·intro w'
          go_simp
          with_reducible rfl
         rotate_left
         ·simp only [Act.put, List.setIfInBounds_toArray, List.set_cons_zero, List.set_cons_succ, i64_w, i32_w]
          rfl
         refine take_ (i := 6) (N := some 58) (v := ?_) (a' := ?_) #[true, true, true, true, false, true, true, false, false, false, false, false, true, false, false, false] rfl rfl (take_ofW HT_.out HW_.out (by kernel_rfl)) (fun _ _ _ h => h) (Or.inl ⟨by rfl, ?_⟩) hHeld ?_ ?_
         rotate_left
         ·rintro w' ⟨s0, s1, s2, s3, s4, s5⟩
          go_simp
          with_reducible rfl
         rotate_left
         ·simp only [Act.put, List.setIfInBounds_toArray, List.set_cons_zero, List.set_cons_succ, i64_w, i32_w]
          rfl
         refine pure_ (i := 7) (N := some 59) (v := ?_) (a' := ?_) #[true, true, true, true, false, true, true, true, false, false, false, false, true, false, false, false] rfl rfl (any_of HT_.out (by kernel_rfl)) (fun _ _ _ h => h) (Or.inl ⟨by rfl, ?_⟩) ?_ ?_
         rotate_left
         ·intro w'
          go_simp
          with_reducible rfl
         rotate_left
         ·simp only [Act.put, List.setIfInBounds_toArray, List.set_cons_zero, List.set_cons_succ, i64_w, i32_w]
          rfl
         refine pure_ (i := 8) (N := some 60) (v := ?_) (a' := ?_) #[true, true, true, true, false, true, true, true, true, false, false, false, true, false, false, false] rfl rfl (any_of HT_.out (by kernel_rfl)) (fun _ _ _ h => h) (Or.inl ⟨by rfl, ?_⟩) ?_ ?_
         rotate_left
         ·intro w'
          go_simp
          with_reducible rfl
         rotate_left
         ·simp only [Act.put, List.setIfInBounds_toArray, List.set_cons_zero, List.set_cons_succ, i64_w, i32_w]
          rfl
         refine pure_ (i := 9) (N := some 61) (v := ?_) (a' := ?_) #[true, true, true, true, false, true, true, true, true, true, false, false, true, false, false, false] rfl rfl (any_of HT_.out (by kernel_rfl)) (fun _ _ _ h => h) (Or.inl ⟨by rfl, ?_⟩) ?_ ?_
         rotate_left
         ·intro w'
          go_simp
          with_reducible rfl
         rotate_left
         ·simp only [Act.put, List.setIfInBounds_toArray, List.set_cons_zero, List.set_cons_succ, i64_w, i32_w]
          rfl
         refine take_ (i := 13) (N := some 65) (v := ?_) (a' := ?_) #[true, true, true, true, false, true, true, true, true, true, false, false, true, true, false, false] rfl rfl (take_ofW HT_.out HW_.out (by kernel_rfl)) (fun _ _ _ h => h) (Or.inl ⟨by rfl, ?_⟩) hHeld ?_ ?_
         rotate_left
         ·rintro w' ⟨s0, s1, s2, s3, s4, s5⟩
          go_simp
          with_reducible rfl
         rotate_left
         ·simp only [Act.put, List.setIfInBounds_toArray, List.set_cons_zero, List.set_cons_succ, i64_w, i32_w]
          rfl
         refine join_ (σ := Value × Value) 3 #[true, true, true, true, true, true, true, true, true, true, true, false, true, true, false, false] (fun s_ => [(56, s_.1), (62, s_.2)]) (fun s_ w' => (w'.cell? ⟨gb180, 0, none⟩ = some (.int .i64 a0_0) ∧ w'.cell? ⟨gb180, 1, none⟩ = some (.int .i64 a0_1) ∧ w'.cell? ⟨gb180, 2, none⟩ = some (.int .i64 a0_2) ∧ w'.cell? ⟨gb180, 3, none⟩ = some (.slice A0_3 l0_3.length c0_3) ∧ w'.cell? ⟨gb180, 4, none⟩ = some (.slice A0_4 l0_4.length c0_4) ∧ w'.cell? ⟨gb180, 5, none⟩ = some (.int .i64 a0_5)) ∧ (Kd.R (Kd.int .u8) 5 w' w.heap.size (fun k_ => (w.heap.size ≤ k_) ∧ some k_ ≠ (s_.2 : Value).ownBlock ∧ some k_ ≠ (.slice Ao57 t188.length co57 : Value).ownBlock) s_.1 t213) ∧ (Kd.R (Kd.int .u8) 5 w' w.heap.size (fun k_ => (w.heap.size ≤ k_) ∧ some k_ ≠ (s_.1 : Value).ownBlock ∧ some k_ ≠ (.slice Ao57 t188.length co57 : Value).ownBlock) s_.2 y216) ∧ (Kd.R (Kd.int .u8) 5 w' w.heap.size (fun k_ => (w.heap.size ≤ k_) ∧ some k_ ≠ (s_.1 : Value).ownBlock ∧ some k_ ≠ (s_.2 : Value).ownBlock) (.slice Ao57 t188.length co57) t188) ∧ (w'.heap[gb180]? = some (.cells #[.int .i64 a0_0, .int .i64 a0_1, .int .i64 a0_2, .slice A0_3 l0_3.length c0_3, .slice A0_4 l0_4.length c0_4, .int .i64 a0_5] 29 (0, 0))) ∧ (Below w.heap.size w w')) ?_ ?_
         rotate_left
         ·intro hCont
          refine two_ (i := 4) (j := 10) (Ni := some 56) (Nj := some 62) #[true, true, true, true, true, true, true, true, true, true, false, false, true, true, false, false] #[true, true, true, true, false, true, true, true, true, true, true, false, true, true, false, false] rfl rfl rfl rfl (two_of HT_.out (by kernel_rfl)) (by decide) (by decide) (fun K hK => ?_) (fun K hK => ?_)
          ·skip
           refine goes_ Try.func35 (by kernel_rfl) rfl #[.slice Ao57 t188.length co57, .int .i64 (l0_3.length : Int)] (by rfl) rfl rfl (by (try simp only [List.map_toArray, List.map_cons, List.map_nil]); first | done | rfl | (simp only [List.length_drop, List.length_take]; rfl)) ?_
           with_reducible refine (spec_PutWord.calls _ _ t188 (l0_3.length : Int) t213 _ ?side1 ?side2 A54.out).mono ?_
           (case side1 => exact cR HO_3.out)
           (case side2 => exact (Kd.R_reads' HO_3.out).2.1)
           rintro e w59 ⟨v214, rfl, ho0, hb⟩
           refine ⟨_, rfl, ?_⟩
           have n0_ := aM (Kd.R_elder' (rA HO_3.out) (Kd.R_base ho0) hb)
           have n1_ := aM (Kd.R_lower (Kd.R_new' (Kd.R_newM (M := fun k_ => (w.heap.size ≤ k_)) ho0 (below_size (bS HB.out)) (fun k_ h_ => h_)) (Kd.R_lt (rA HO_3.out))) (below_size (bS HB.out)))
           have n2_ := aM (kB BK180.out hb)
           have n3_ := aM (below_step (bS HB.out) hb)
           clear HO_3
           clear BK180
           clear HB
           have HO_3 := n0_
           have HO215 := n1_
           have BK180 := n2_
           have HB := n3_
           clear n0_ n1_ n2_ n3_
           (try clear hb)
           (try clear hb2)
           (try clear hk)
           (try clear hi)
           (try clear ho0)
           refine hK.out _ _ ⟨(blk_cell BK180.out 0).trans rfl, (blk_cell BK180.out 1).trans rfl, (blk_cell BK180.out 2).trans rfl, (blk_cell BK180.out 3).trans rfl, (blk_cell BK180.out 4).trans rfl, (blk_cell BK180.out 5).trans rfl⟩ (fun hHeld => ?_)
           clear hK K
           refine norm_ (a' := ?_) ?_ ?_
           rotate_left
           ·show Act.put _ (some 56) _ = _
            simp only [Act.put, List.setIfInBounds_toArray, List.set_cons_zero, List.set_cons_succ, i64_w, i32_w]
            rfl
           refine one_ (i := 10) (N := some 62) #[true, true, true, true, true, true, true, true, true, true, true, false, true, true, false, false] rfl rfl (one_of HT_.out (by kernel_rfl)) (by decide) (fun K hK => ?_)
           refine Kd.R_lit_step (Kd.int .u8) _ 5 ?hg (N := 62) ?hd (xs := ([(jz) % 256] : List Int)) (inner := [.int .u8 ((jz) % 256)]) (ok := fun _ => True) (okp := fun _ => True) ?hr ?hp (fun _ hk => hk) trivial (Below.refl _ _) (Nat.le_refl _) (by simp) ?_; (case hd => rfl); (case hg => rfl); (case hr => first | (go_simp; done) | (go_simp; rfl)); (case hp => exact (Reps.one (show Kd.M (Kd.int .u8) _ _ _ ((jz) % 256) [.int .u8 ((jz) % 256)] from rfl) (Reps.none _ _)))
           intro v217 w60 ho61 hb hg_ hnew_
           clear hg_ hnew_
           (first | rw [← Ny216.out] at ho61 | (simp only [Int.reduceToNat] at ho61; rw [← Ny216.out] at ho61))
           have n0_ := aM (Kd.R_elder' (rA HO_3.out) (Kd.R_base ho61) hb)
           have n1_ := aM (Kd.R_elder' (rA HO215.out) (Kd.R_base ho61) hb)
           have n2_ := aM (Kd.R_lower (Kd.R_new' (Kd.R_new' (Kd.R_newM (M := fun k_ => (w.heap.size ≤ k_)) ho61 (below_size (bS HB.out)) (fun k_ h_ => h_)) (Kd.R_lt (rA HO_3.out))) (Kd.R_lt (rA HO215.out))) (below_size (bS HB.out)))
           have n3_ := aM (kB BK180.out hb)
           have n4_ := aM (below_step (bS HB.out) hb)
           clear HO_3
           clear HO215
           clear BK180
           clear HB
           have HO_3 := n0_
           have HO215 := n1_
           have HO218 := n2_
           have BK180 := n3_
           have HB := n4_
           clear n0_ n1_ n2_ n3_ n4_
           clear hb ho61
           refine hK.out _ _ ⟨(blk_cell BK180.out 0).trans rfl, (blk_cell BK180.out 1).trans rfl, (blk_cell BK180.out 2).trans rfl, (blk_cell BK180.out 3).trans rfl, (blk_cell BK180.out 4).trans rfl, (blk_cell BK180.out 5).trans rfl⟩ (fun hHeld => ?_)
           clear hK K
           refine norm_ (a' := ?_) ?_ ?_
           rotate_left
           ·show Act.put _ (some 62) _ = _
            simp only [Act.put, List.setIfInBounds_toArray, List.set_cons_zero, List.set_cons_succ, i64_w, i32_w]
            rfl
           exact norm_ (by simp only [putAll, Act.put, List.setIfInBounds_toArray, List.set_cons_zero, List.set_cons_succ]) (hCont (v214, v217) _ ⟨hHeld, (by (with_reducible repeat (first | apply Kd.R_alloc | apply Kd.R_drewN | apply Kd.R_drew)); exact Kd.R_mono HO215.out (fun _ hk => by first | exact ⟨hk.1.1.1, ⟨hk.2, hk.1.2⟩⟩ | (simp only [ne_eq] at hk ⊢; simp [hk]))), (by (with_reducible repeat (first | apply Kd.R_alloc | apply Kd.R_drewN | apply Kd.R_drew)); exact Kd.R_mono HO218.out (fun _ hk => by first | exact ⟨hk.1.1.1, ⟨hk.2, hk.1.2⟩⟩ | (simp only [ne_eq] at hk ⊢; simp [hk]))), (by (with_reducible repeat (first | apply Kd.R_alloc | apply Kd.R_drewN | apply Kd.R_drew)); exact Kd.R_mono HO_3.out (fun _ hk => by first | exact ⟨hk.1.1, ⟨hk.1.2, hk.2⟩⟩ | (simp only [ne_eq] at hk ⊢; simp [hk]))), (kA BK180.out), (bS HB.out)⟩)
          ·skip
           refine Kd.R_lit_step (Kd.int .u8) _ 5 ?hg (N := 62) ?hd (xs := ([(jz) % 256] : List Int)) (inner := [.int .u8 ((jz) % 256)]) (ok := fun _ => True) (okp := fun _ => True) ?hr ?hp (fun _ hk => hk) trivial (Below.refl _ _) (Nat.le_refl _) (by simp) ?_; (case hd => rfl); (case hg => rfl); (case hr => first | (go_simp; done) | (go_simp; rfl)); (case hp => exact (Reps.one (show Kd.M (Kd.int .u8) _ _ _ ((jz) % 256) [.int .u8 ((jz) % 256)] from rfl) (Reps.none _ _)))
           intro v217 w59 ho60 hb hg_ hnew_
           clear hg_ hnew_
           (first | rw [← Ny216.out] at ho60 | (simp only [Int.reduceToNat] at ho60; rw [← Ny216.out] at ho60))
           have n0_ := aM (Kd.R_elder' (rA HO_3.out) (Kd.R_base ho60) hb)
           have n1_ := aM (Kd.R_lower (Kd.R_new' (Kd.R_newM (M := fun k_ => (w.heap.size ≤ k_)) ho60 (below_size (bS HB.out)) (fun k_ h_ => h_)) (Kd.R_lt (rA HO_3.out))) (below_size (bS HB.out)))
           have n2_ := aM (kB BK180.out hb)
           have n3_ := aM (below_step (bS HB.out) hb)
           clear HO_3
           clear BK180
           clear HB
           have HO_3 := n0_
           have HO218 := n1_
           have BK180 := n2_
           have HB := n3_
           clear n0_ n1_ n2_ n3_
           clear hb ho60
           refine hK.out _ _ ⟨(blk_cell BK180.out 0).trans rfl, (blk_cell BK180.out 1).trans rfl, (blk_cell BK180.out 2).trans rfl, (blk_cell BK180.out 3).trans rfl, (blk_cell BK180.out 4).trans rfl, (blk_cell BK180.out 5).trans rfl⟩ (fun hHeld => ?_)
           clear hK K
           refine norm_ (a' := ?_) ?_ ?_
           rotate_left
           ·show Act.put _ (some 62) _ = _
            simp only [Act.put, List.setIfInBounds_toArray, List.set_cons_zero, List.set_cons_succ, i64_w, i32_w]
            rfl
           refine one_ (i := 4) (N := some 56) #[true, true, true, true, true, true, true, true, true, true, true, false, true, true, false, false] rfl rfl (one_of HT_.out (by kernel_rfl)) (by decide) (fun K hK => ?_)
           refine goes_ Try.func35 (by kernel_rfl) rfl #[.slice Ao57 t188.length co57, .int .i64 (l0_3.length : Int)] (by rfl) rfl rfl (by (try simp only [List.map_toArray, List.map_cons, List.map_nil]); first | done | rfl | (simp only [List.length_drop, List.length_take]; rfl)) ?_
           with_reducible refine (spec_PutWord.calls _ _ t188 (l0_3.length : Int) t213 _ ?side1 ?side2 A54.out).mono ?_
           (case side1 => exact cR HO_3.out)
           (case side2 => exact (Kd.R_reads' HO_3.out).2.1)
           rintro e w61 ⟨v214, rfl, ho0, hb⟩
           refine ⟨_, rfl, ?_⟩
           have n0_ := aM (Kd.R_elder' (rA HO_3.out) (Kd.R_base ho0) hb)
           have n1_ := aM (Kd.R_elder' (rA HO218.out) (Kd.R_base ho0) hb)
           have n2_ := aM (Kd.R_lower (Kd.R_new' (Kd.R_new' (Kd.R_newM (M := fun k_ => (w.heap.size ≤ k_)) ho0 (below_size (bS HB.out)) (fun k_ h_ => h_)) (Kd.R_lt (rA HO_3.out))) (Kd.R_lt (rA HO218.out))) (below_size (bS HB.out)))
           have n3_ := aM (kB BK180.out hb)
           have n4_ := aM (below_step (bS HB.out) hb)
           clear HO_3
           clear HO218
           clear BK180
           clear HB
           have HO_3 := n0_
           have HO218 := n1_
           have HO215 := n2_
           have BK180 := n3_
           have HB := n4_
           clear n0_ n1_ n2_ n3_ n4_
           (try clear hb)
           (try clear hb2)
           (try clear hk)
           (try clear hi)
           (try clear ho0)
           refine hK.out _ _ ⟨(blk_cell BK180.out 0).trans rfl, (blk_cell BK180.out 1).trans rfl, (blk_cell BK180.out 2).trans rfl, (blk_cell BK180.out 3).trans rfl, (blk_cell BK180.out 4).trans rfl, (blk_cell BK180.out 5).trans rfl⟩ (fun hHeld => ?_)
           clear hK K
           refine norm_ (a' := ?_) ?_ ?_
           rotate_left
           ·show Act.put _ (some 56) _ = _
            simp only [Act.put, List.setIfInBounds_toArray, List.set_cons_zero, List.set_cons_succ, i64_w, i32_w]
            rfl
           exact norm_ (by simp only [putAll, Act.put, List.setIfInBounds_toArray, List.set_cons_zero, List.set_cons_succ]) (hCont (v214, v217) _ ⟨hHeld, (by (with_reducible repeat (first | apply Kd.R_alloc | apply Kd.R_drewN | apply Kd.R_drew)); exact Kd.R_mono HO215.out (fun _ hk => by first | exact ⟨hk.1.1.1, ⟨hk.2, hk.1.2⟩⟩ | (simp only [ne_eq] at hk ⊢; simp [hk]))), (by (with_reducible repeat (first | apply Kd.R_alloc | apply Kd.R_drewN | apply Kd.R_drew)); exact Kd.R_mono HO218.out (fun _ hk => by first | exact ⟨hk.1.1.1, ⟨hk.2, hk.1.2⟩⟩ | (simp only [ne_eq] at hk ⊢; simp [hk]))), (by (with_reducible repeat (first | apply Kd.R_alloc | apply Kd.R_drewN | apply Kd.R_drew)); exact Kd.R_mono HO_3.out (fun _ hk => by first | exact ⟨hk.1.1, ⟨hk.2, hk.1.2⟩⟩ | (simp only [ne_eq] at hk ⊢; simp [hk]))), (kA BK180.out), (bS HB.out)⟩)
         rintro ⟨v214, v217⟩ w62 ⟨hS_, h0_, h1_, h2_, h3_, h4_⟩
         have n0_ : Aside0 (Kd.R (Kd.int .u8) 5 w62 w.heap.size (fun k_ => (w.heap.size ≤ k_) ∧ some k_ ≠ (v217 : Value).ownBlock ∧ some k_ ≠ (.slice Ao57 t188.length co57 : Value).ownBlock) v214 t213) := ⟨h0_⟩
         have n1_ : Aside0 (Kd.R (Kd.int .u8) 5 w62 w.heap.size (fun k_ => (w.heap.size ≤ k_) ∧ some k_ ≠ (v214 : Value).ownBlock ∧ some k_ ≠ (.slice Ao57 t188.length co57 : Value).ownBlock) v217 y216) := ⟨h1_⟩
         have n2_ : Aside0 (Kd.R (Kd.int .u8) 5 w62 w.heap.size (fun k_ => (w.heap.size ≤ k_) ∧ some k_ ≠ (v214 : Value).ownBlock ∧ some k_ ≠ (v217 : Value).ownBlock) (.slice Ao57 t188.length co57) t188) := ⟨h2_⟩
         have n3_ : Aside0 (w62.heap[gb180]? = some (.cells #[.int .i64 a0_0, .int .i64 a0_1, .int .i64 a0_2, .slice A0_3 l0_3.length c0_3, .slice A0_4 l0_4.length c0_4, .int .i64 a0_5] 29 (0, 0))) := ⟨h3_⟩
         have n4_ : Aside0 (Below w.heap.size w w62) := ⟨h4_⟩
         clear HO_3
         clear BK180
         clear HB
         clear h0_ h1_ h2_ h3_ h4_
         have HO215 := n0_
         have HO218 := n1_
         have HO_3 := n2_
         have BK180 := n3_
         have HB := n4_
         clear n0_ n1_ n2_ n3_ n4_
         have hHeld : w62.cell? ⟨gb180, 0, none⟩ = some (.int .i64 a0_0) ∧ w62.cell? ⟨gb180, 1, none⟩ = some (.int .i64 a0_1) ∧ w62.cell? ⟨gb180, 2, none⟩ = some (.int .i64 a0_2) ∧ w62.cell? ⟨gb180, 3, none⟩ = some (.slice A0_3 l0_3.length c0_3) ∧ w62.cell? ⟨gb180, 4, none⟩ = some (.slice A0_4 l0_4.length c0_4) ∧ w62.cell? ⟨gb180, 5, none⟩ = some (.int .i64 a0_5) := hS_
         obtain ⟨Ao64, co64, eo64⟩ := Kd.R_slice HO218.out
         (first | subst eo64 | (injection eo64 with f1_ f2_ f3_; have f4_ := f1_.symm; have f5_ := f3_.symm; clear f1_ f2_ f3_; subst f4_; subst f5_))
         refine norm_ (a' := ?_) ?_ ?_
         rotate_left
         ·simp only [putAll, Act.put, List.setIfInBounds_toArray, List.set_cons_zero, List.set_cons_succ]
          rfl
         refine one_ (i := 11) (N := some 63) #[true, true, true, true, true, true, true, true, true, true, true, true, true, true, false, false] rfl rfl (one_of HT_.out (by kernel_rfl)) (by decide) (fun K hK => ?_)
         refine Kd.R_append_rows_step (Kd.int .u8) (w0 := w) w.heap.size (by rfl) (.tmp 56) (.tmp 62) 33 5 (.int .u8 0) 1 rfl Try.underlying33 info5 rfl (by decide) (by omega) v214 t213 y216 _ _ _ (fun k_ => (w.heap.size ≤ k_) ∧ some k_ ≠ (.slice Ao57 t188.length co57 : Value).ownBlock ∧ some k_ ≠ (.slice Ao64 y216.length co64 : Value).ownBlock) (fun _ => False) rfl rfl ?aO ?aR (fun _ _ h => h) (fun _ h => h.elim) ?aF ?aB ?aS ?aL ?_
         (case aR => repeat (first | exact (Kd.R_reads' HO218.out).2.2 | (with_reducible refine Kd.C_alloc ?_ _) | (with_reducible refine Kd.C_drewN ?_ _) | (with_reducible refine Kd.C_drew ?_)))
         (case aB => exact (bS HB.out))
         (case aF => exact (fun k_ hk => ⟨(Nat.le_trans (below_size (bS HB.out)) hk), Kd.fresh' (Kd.R_lt (rA HO_3.out)) k_ hk, Kd.fresh' (Kd.R_lt (rA HO218.out)) k_ hk⟩))
         (case aO => exact (by (with_reducible repeat (first | apply Kd.R_alloc | apply Kd.R_drewN | apply Kd.R_drew)); exact Kd.R_mono HO215.out (fun _ hk => by first | exact ⟨hk.1, ⟨hk.2.2, hk.2.1⟩⟩ | (simp only [ne_eq] at hk ⊢; simp [hk]))))
         (case aS => exact (below_size (bS HB.out)))
         (case aL => have := LMc55.out; omega)
         intro v220 w63 ho hb hg hat
         rw [← Ny219.out] at ho
         have n0_ := aM (Kd.R_after (ok := (fun k_ => (w.heap.size ≤ k_) ∧ some k_ ≠ (.slice Ao64 y216.length co64 : Value).ownBlock)) (by (with_reducible repeat (first | apply Kd.R_alloc | apply Kd.R_drewN | apply Kd.R_drew)); exact Kd.R_mono HO_3.out (fun _ hk => by first | exact ⟨⟨hk.1, hk.2.2⟩, hk.2.1⟩ | (simp only [ne_eq] at hk ⊢; simp [hk]))) hg hat)
         have n1_ := aM (blk_grown (g := gb180) (o := .cells #[.int .i64 a0_0, .int .i64 a0_1, .int .i64 a0_2, .slice A0_3 l0_3.length c0_3, .slice A0_4 l0_4.length c0_4, .int .i64 a0_5] 29 (0, 0)) (kA BK180.out) hg (Kd.R_ne HO215.out BK180.out (by decide)))
         have n2_ := aM (Kd.R_after (ok := (fun k_ => (w.heap.size ≤ k_) ∧ some k_ ≠ (.slice Ao57 t188.length co57 : Value).ownBlock)) (by (with_reducible repeat (first | apply Kd.R_alloc | apply Kd.R_drewN | apply Kd.R_drew)); exact Kd.R_mono HO218.out (fun _ hk => by first | exact ⟨⟨hk.1, hk.2.2⟩, hk.2.1⟩ | (simp only [ne_eq] at hk ⊢; simp [hk]))) hg hat)
         have n3_ := aM (hb)
         have n4_ := aM (ho)
         clear HO_3
         clear BK180
         clear HO218
         clear HB
         clear HO215
         have HO_3 := n0_
         have BK180 := n1_
         have HO218 := n2_
         have HB := n3_
         have HO221 := n4_
         clear n0_ n1_ n2_ n3_ n4_
         clear ho hb hg hat
         obtain ⟨Ao65, co65, eo65⟩ := Kd.R_slice HO221.out
         (first | subst eo65 | (injection eo65 with f1_ f2_ f3_; have f4_ := f1_.symm; have f5_ := f3_.symm; clear f1_ f2_ f3_; subst f4_; subst f5_))
         refine hK.out _ _ ⟨(blk_cell BK180.out 0).trans rfl, (blk_cell BK180.out 1).trans rfl, (blk_cell BK180.out 2).trans rfl, (blk_cell BK180.out 3).trans rfl, (blk_cell BK180.out 4).trans rfl, (blk_cell BK180.out 5).trans rfl⟩ (fun hHeld => ?_)
         clear hK K
         refine norm_ (a' := ?_) ?_ ?_
         rotate_left
         ·show Act.put _ (some 63) _ = _
          simp only [Act.put, List.setIfInBounds_toArray, List.set_cons_zero, List.set_cons_succ, i64_w, i32_w]
          rfl
         refine one_ (i := 14) (N := some 66) #[true, true, true, true, true, true, true, true, true, true, true, true, true, true, true, false] rfl rfl (one_of HT_.out (by kernel_rfl)) (by decide) (fun K hK => ?_)
         refine goes_ Try.func37 (by kernel_rfl) rfl #[.slice Ao65 y219.length co65, .slice A0_3 l0_3.length c0_3] (by rfl) rfl rfl (by (try simp only [List.map_toArray, List.map_cons, List.map_nil]); first | done | rfl | (simp only [List.length_drop, List.length_take]; rfl)) ?_
         with_reducible refine (spec_l3PutWords.calls kj19 (fun k_ => some k_ = (.slice Ao65 y219.length co65 : Value).ownBlock) _ _ y219 _ _ l0_3 t222 _ ?side1 ?side2 ?side3 A56.out).mono ?_
         (case side1 => exact Kd.R_V (Kd.R_tight rfl (Kd.R_types (HO221.out) BK180.out (by decide))))
         (case side2 => exact cB HR0_3.out HB.out)
         (case side3 => exact HC0_3.out)
         rintro e w66 ⟨v223, rfl, ho0, hb⟩
         refine ⟨_, rfl, ?_⟩
         have n0_ := aM (rB HO_3.out hb)
         have n1_ := aM (rB HO218.out hb)
         have n2_ := aM (rB HO221.out hb)
         have n3_ := aM (Kd.V_lower (Kd.V_mono (ok' := fun k_ => (w.heap.size ≤ k_) ∧ some k_ ≠ (.slice Ao57 t188.length co57 : Value).ownBlock ∧ some k_ ≠ (.slice Ao64 y216.length co64 : Value).ownBlock ∧ k_ ≠ gb180) ho0 (fun k_ hk_ => ⟨Or.elim hk_ (fun hs_ => ((Kd.R_types (HO221.out) BK180.out (by decide)).1 k_ hs_.symm).1.1) (fun hn_ => (Nat.le_trans (below_size (bS HB.out)) hn_)), Or.elim hk_ (fun hs_ => ((Kd.R_types (HO221.out) BK180.out (by decide)).1 k_ hs_.symm).1.2.1) (fun hn_ => (Kd.fresh' (Kd.R_lt (rA HO_3.out)) k_ hn_)), Or.elim hk_ (fun hs_ => ((Kd.R_types (HO221.out) BK180.out (by decide)).1 k_ hs_.symm).1.2.2) (fun hn_ => (Kd.fresh' (Kd.R_lt (rA HO218.out)) k_ hn_)), Or.elim hk_ (fun hs_ => ((Kd.R_types (HO221.out) BK180.out (by decide)).1 k_ hs_.symm).2) (fun hn_ => (Kd.freshB (g := gb180) (o := .cells #[.int .i64 a0_0, .int .i64 a0_1, .int .i64 a0_2, .slice A0_3 l0_3.length c0_3, .slice A0_4 l0_4.length c0_4, .int .i64 a0_5] 29 (0, 0)) (kA BK180.out) k_ hn_))⟩)) (below_size (bS HB.out)))
         have n4_ := aM (kB BK180.out hb)
         have n5_ := aM (below_step (bS HB.out) hb)
         clear HO_3
         clear HO218
         clear HO221
         clear BK180
         clear HB
         have HO_3 := n0_
         have HO218 := n1_
         have HO221 := n2_
         have HO224 := n3_
         have BK180 := n4_
         have HB := n5_
         clear n0_ n1_ n2_ n3_ n4_ n5_
         (try clear hb)
         (try clear hb2)
         (try clear hk)
         (try clear hi)
         (try clear ho0)
         refine hK.out _ _ ⟨(blk_cell BK180.out 0).trans rfl, (blk_cell BK180.out 1).trans rfl, (blk_cell BK180.out 2).trans rfl, (blk_cell BK180.out 3).trans rfl, (blk_cell BK180.out 4).trans rfl, (blk_cell BK180.out 5).trans rfl⟩ (fun hHeld => ?_)
         clear hK K
         refine norm_ (a' := ?_) ?_ ?_
         rotate_left
         ·show Act.put _ (some 66) _ = _
          simp only [Act.put, List.setIfInBounds_toArray, List.set_cons_zero, List.set_cons_succ, i64_w, i32_w]
          rfl
         refine pure_ (i := 15) (N := some 2) (v := ?_) (a' := ?_) #[true, true, true, true, true, true, true, true, true, true, true, true, true, true, true, true] rfl rfl (any_of HT_.out (by kernel_rfl)) (fun _ _ _ h => h) (Or.inl ⟨by rfl, ?_⟩) ?_ ?_
         rotate_left
         ·intro w'
          go_simp
          with_reducible rfl
         rotate_left
         ·simp only [Act.put, List.setIfInBounds_toArray, List.set_cons_zero, List.set_cons_succ, i64_w, i32_w]
          rfl
         refine done_ (done_of HT_.out (by kernel_rfl)) ?_
         try go_wp2
         go_ret
         exact ⟨_, by first | rfl | (simp [errW_none, errW_some] <;> rfl) | (simp [*, errW_none, errW_some] <;> rfl), by (with_reducible repeat (first | apply Kd.V_alloc | apply Kd.V_drewN | apply Kd.V_drew)); exact Kd.V_mono HO224.out (fun _ hk => hk.1), bS HB.out⟩
        ·rw [if_neg c55] at H
         exact absurd H (by simp)
       ·rw [if_neg c53] at H
        have c53b0 : (a0_0 == 16) = false := beq_eq_false_iff_ne.mpr c53
        have c53b1 : (a0_0 != 16) = true := bne_iff_ne.mpr c53
        by_cases c67 : a0_0 = 23
        ·rw [if_pos c67] at H
         have c67b0 : (a0_0 == 23) = true := beq_iff_eq.mpr c67
         have c67b1 : (a0_0 != 23) = false := bne_eq_false_iff_eq.mpr c67
         clear c67
         replace H := Option.bind_eq_some_iff.mp H
         obtain ⟨t225, A680, H⟩ := H
         replace H : ((spec_PutWord.f t225 a0_5).bind fun t228 => ((spec_PutWord.f t228 (l0_3.length : Int)).bind fun t231 => ((some (([(jz) % 256] : List Int) : List Int)).bind fun y234 => (if t231.length + y234.length < 140737488355328 then ((spec_l3PutWords.f kj19 (t231 ++ y234) l0_3).bind fun t240 => (some t240)) else (none))))) = some r := H
         have A68 := aM A680
         clear A680
         replace H := Option.bind_eq_some_iff.mp H
         obtain ⟨t228, A690, H⟩ := H
         replace H : ((spec_PutWord.f t228 (l0_3.length : Int)).bind fun t231 => ((some (([(jz) % 256] : List Int) : List Int)).bind fun y234 => (if t231.length + y234.length < 140737488355328 then ((spec_l3PutWords.f kj19 (t231 ++ y234) l0_3).bind fun t240 => (some t240)) else (none)))) = some r := H
         have A69 := aM A690
         clear A690
         replace H := Option.bind_eq_some_iff.mp H
         obtain ⟨t231, A700, H⟩ := H
         replace H : ((some (([(jz) % 256] : List Int) : List Int)).bind fun y234 => (if t231.length + y234.length < 140737488355328 then ((spec_l3PutWords.f kj19 (t231 ++ y234) l0_3).bind fun t240 => (some t240)) else (none))) = some r := H
         have A70 := aM A700
         clear A700
         obtain ⟨y234, hy234⟩ : ∃ y_ : List Int, y_ = (([(jz) % 256] : List Int)) := ⟨_, rfl⟩
         replace H : (if t231.length + y234.length < 140737488355328 then ((spec_l3PutWords.f kj19 (t231 ++ y234) l0_3).bind fun t240 => (some t240)) else (none)) = some r := by first | (rw [hy234]; with_reducible exact H) | (have H2_ := (Option.bind_some _ _).symm.trans H; rw [hy234]; with_reducible exact H2_) | (have H2_ := (Option.bind_some _ _).symm.trans H; with_reducible exact H2_) | with_reducible exact H | (rw [hy234]; exact H) | exact H
         have Ny234 := aM hy234
         clear hy234
         by_cases c71 : t231.length + y234.length < 140737488355328
         ·rw [if_pos c71] at H
          have LMc71 := aM c71
          clear c71
          obtain ⟨y237, hy237⟩ : ∃ y_ : List Int, y_ = (t231 ++ y234) := ⟨_, rfl⟩
          replace H : ((spec_l3PutWords.f kj19 y237 l0_3).bind fun t240 => (some t240)) = some r := by first | (rw [hy237]; with_reducible exact H) | (have H2_ := (Option.bind_some _ _).symm.trans H; rw [hy237]; with_reducible exact H2_) | (have H2_ := (Option.bind_some _ _).symm.trans H; with_reducible exact H2_) | with_reducible exact H | (rw [hy237]; exact H) | exact H
          have Ny237 := aM hy237
          clear hy237
          replace H := Option.bind_eq_some_iff.mp H
          obtain ⟨t240, A720, H⟩ := H
          replace H : (some t240) = some r := H
          have A72 := aM A720
          clear A720
          obtain rfl := Option.some.inj H
          try go_wp2
          have n0_ := aM (Kd.R_drew HO_3.out)
          have n1_ := aM (blk_drew BK180.out)
          have n2_ := aM (below_drew1 HB.out)
          clear HO_3
          clear BK180
          clear HB
          have HO_3 := n0_
          have BK180 := n1_
          have HB := n2_
          clear n0_ n1_ n2_
          obtain ⟨Ao74, co74, eo74⟩ := Kd.R_slice HO_3.out
          (first | subst eo74 | (injection eo74 with f1_ f2_ f3_; have f4_ := f1_.symm; have f5_ := f3_.symm; clear f1_ f2_ f3_; subst f4_; subst f5_))
          refine start_ (n := 12) (S := fun w' => w'.cell? ⟨gb180, 0, none⟩ = some (.int .i64 a0_0) ∧ w'.cell? ⟨gb180, 1, none⟩ = some (.int .i64 a0_1) ∧ w'.cell? ⟨gb180, 2, none⟩ = some (.int .i64 a0_2) ∧ w'.cell? ⟨gb180, 3, none⟩ = some (.slice A0_3 l0_3.length c0_3) ∧ w'.cell? ⟨gb180, 4, none⟩ = some (.slice A0_4 l0_4.length c0_4) ∧ w'.cell? ⟨gb180, 5, none⟩ = some (.int .i64 a0_5)) (ds := []) #[false, false, false, false, false, false, false, false, false, false, false, false] (by kernel_rfl) rfl rfl ⟨(blk_cell BK180.out 0).trans rfl, (blk_cell BK180.out 1).trans rfl, (blk_cell BK180.out 2).trans rfl, (blk_cell BK180.out 3).trans rfl, (blk_cell BK180.out 4).trans rfl, (blk_cell BK180.out 5).trans rfl⟩ (fun hHeld => ?_); refine with_tabW spec_PutReq.tab16 spec_PutReq.bits16 (fun HT_ HW_ => ?_)
          generalize wc.drew = w73 at HO_3 BK180 HB hHeld ⊢
          refine pure_ (i := 0) (N := some 69) (v := ?_) (a' := ?_) #[true, false, false, false, false, false, false, false, false, false, false, false] rfl rfl (any_of HT_.out (by kernel_rfl)) (fun _ _ _ h => h) (Or.inl ⟨by rfl, ?_⟩) ?_ ?_
          rotate_left
          ·intro w'
           go_simp
           with_reducible rfl
          rotate_left
          ·simp only [Act.put, List.setIfInBounds_toArray, List.set_cons_zero, List.set_cons_succ, i64_w, i32_w]
           rfl
          refine pure_ (i := 1) (N := some 70) (v := ?_) (a' := ?_) #[true, true, false, false, false, false, false, false, false, false, false, false] rfl rfl (any_of HT_.out (by kernel_rfl)) (fun _ _ _ h => h) (Or.inl ⟨by rfl, ?_⟩) ?_ ?_
          rotate_left
          ·intro w'
           go_simp
           with_reducible rfl
          rotate_left
          ·simp only [Act.put, List.setIfInBounds_toArray, List.set_cons_zero, List.set_cons_succ, i64_w, i32_w]
           rfl
          refine pure_ (i := 4) (N := some 73) (v := ?_) (a' := ?_) #[true, true, false, false, true, false, false, false, false, false, false, false] rfl rfl (any_of HT_.out (by kernel_rfl)) (fun _ _ _ h => h) (Or.inl ⟨by rfl, ?_⟩) ?_ ?_
          rotate_left
          ·intro w'
           go_simp
           with_reducible rfl
          rotate_left
          ·simp only [Act.put, List.setIfInBounds_toArray, List.set_cons_zero, List.set_cons_succ, i64_w, i32_w]
           rfl
          refine pure_ (i := 7) (N := some 76) (v := ?_) (a' := ?_) #[true, true, false, false, true, false, false, true, false, false, false, false] rfl rfl (any_of HT_.out (by kernel_rfl)) (fun _ _ _ h => h) (Or.inl ⟨by rfl, ?_⟩) ?_ ?_
          rotate_left
          ·intro w'
           go_simp
           with_reducible rfl
          rotate_left
          ·simp only [Act.put, List.setIfInBounds_toArray, List.set_cons_zero, List.set_cons_succ, i64_w, i32_w]
           rfl
          refine take_ (i := 2) (N := some 71) (v := ?_) (a' := ?_) #[true, true, true, false, true, false, false, true, false, false, false, false] rfl rfl (take_ofW HT_.out HW_.out (by kernel_rfl)) (fun _ _ _ h => h) (Or.inl ⟨by rfl, ?_⟩) hHeld ?_ ?_
          rotate_left
          ·rintro w' ⟨s0, s1, s2, s3, s4, s5⟩
           go_simp
           with_reducible rfl
          rotate_left
          ·simp only [Act.put, List.setIfInBounds_toArray, List.set_cons_zero, List.set_cons_succ, i64_w, i32_w]
           rfl
          refine take_ (i := 5) (N := some 74) (v := ?_) (a' := ?_) #[true, true, true, false, true, true, false, true, false, false, false, false] rfl rfl (take_ofW HT_.out HW_.out (by kernel_rfl)) (fun _ _ _ h => h) (Or.inl ⟨by rfl, ?_⟩) hHeld ?_ ?_
          rotate_left
          ·rintro w' ⟨s0, s1, s2, s3, s4, s5⟩
           go_simp
           with_reducible rfl
          rotate_left
          ·simp only [Act.put, List.setIfInBounds_toArray, List.set_cons_zero, List.set_cons_succ, i64_w, i32_w]
           rfl
          refine take_ (i := 8) (N := some 77) (v := ?_) (a' := ?_) #[true, true, true, false, true, true, false, true, true, false, false, false] rfl rfl (take_ofW HT_.out HW_.out (by kernel_rfl)) (fun _ _ _ h => h) (Or.inl ⟨by rfl, ?_⟩) hHeld ?_ ?_
          rotate_left
          ·rintro w' ⟨s0, s1, s2, s3, s4, s5⟩
           go_simp
           with_reducible rfl
          rotate_left
          ·simp only [Act.put, List.setIfInBounds_toArray, List.set_cons_zero, List.set_cons_succ, i64_w, i32_w]
           rfl
          refine pure_ (i := 9) (N := some 78) (v := ?_) (a' := ?_) #[true, true, true, false, true, true, false, true, true, true, false, false] rfl rfl (any_of HT_.out (by kernel_rfl)) (fun _ _ _ h => h) (Or.inl ⟨by rfl, ?_⟩) ?_ ?_
          rotate_left
          ·intro w'
           go_simp
           with_reducible rfl
          rotate_left
          ·simp only [Act.put, List.setIfInBounds_toArray, List.set_cons_zero, List.set_cons_succ, i64_w, i32_w]
           rfl
          refine one_ (i := 3) (N := some 72) #[true, true, true, true, true, true, false, true, true, true, false, false] rfl rfl (one_of HT_.out (by kernel_rfl)) (by decide) (fun K hK => ?_)
          refine goes_ Try.func35 (by kernel_rfl) rfl #[.slice Ao74 t188.length co74, .int .i64 a0_2] (by rfl) rfl rfl (by (try simp only [List.map_toArray, List.map_cons, List.map_nil]); first | done | rfl | (simp only [List.length_drop, List.length_take]; rfl)) ?_
          with_reducible refine (spec_PutWord.calls _ _ t188 a0_2 t225 _ ?side1 ?side2 A68.out).mono ?_
          (case side1 => exact cR HO_3.out)
          (case side2 => exact (Kd.R_reads' HO_3.out).2.1)
          rintro e w75 ⟨v226, rfl, ho0, hb⟩
          refine ⟨_, rfl, ?_⟩
          have n0_ := aM (Kd.R_elder' (rA HO_3.out) (Kd.R_base ho0) hb)
          have n1_ := aM (Kd.R_lower (Kd.R_new' (Kd.R_newM (M := fun k_ => (w.heap.size ≤ k_)) ho0 (below_size (bS HB.out)) (fun k_ h_ => h_)) (Kd.R_lt (rA HO_3.out))) (below_size (bS HB.out)))
          have n2_ := aM (kB BK180.out hb)
          have n3_ := aM (below_step (bS HB.out) hb)
          clear HO_3
          clear BK180
          clear HB
          have HO_3 := n0_
          have HO227 := n1_
          have BK180 := n2_
          have HB := n3_
          clear n0_ n1_ n2_ n3_
          (try clear hb)
          (try clear hb2)
          (try clear hk)
          (try clear hi)
          (try clear ho0)
          obtain ⟨Ao76, co76, eo76⟩ := Kd.R_slice HO227.out
          (first | subst eo76 | (injection eo76 with f1_ f2_ f3_; have f4_ := f1_.symm; have f5_ := f3_.symm; clear f1_ f2_ f3_; subst f4_; subst f5_))
          refine hK.out _ _ ⟨(blk_cell BK180.out 0).trans rfl, (blk_cell BK180.out 1).trans rfl, (blk_cell BK180.out 2).trans rfl, (blk_cell BK180.out 3).trans rfl, (blk_cell BK180.out 4).trans rfl, (blk_cell BK180.out 5).trans rfl⟩ (fun hHeld => ?_)
          clear hK K
          refine norm_ (a' := ?_) ?_ ?_
          rotate_left
          ·show Act.put _ (some 72) _ = _
           simp only [Act.put, List.setIfInBounds_toArray, List.set_cons_zero, List.set_cons_succ, i64_w, i32_w]
           rfl
          refine one_ (i := 6) (N := some 75) #[true, true, true, true, true, true, true, true, true, true, false, false] rfl rfl (one_of HT_.out (by kernel_rfl)) (by decide) (fun K hK => ?_)
          refine goes_ Try.func35 (by kernel_rfl) rfl #[.slice Ao76 t225.length co76, .int .i64 a0_5] (by rfl) rfl rfl (by (try simp only [List.map_toArray, List.map_cons, List.map_nil]); first | done | rfl | (simp only [List.length_drop, List.length_take]; rfl)) ?_
          with_reducible refine (spec_PutWord.calls _ _ t225 a0_5 t228 _ ?side1 ?side2 A69.out).mono ?_
          (case side1 => exact cR HO227.out)
          (case side2 => exact (Kd.R_reads' HO227.out).2.1)
          rintro e w77 ⟨v229, rfl, ho0, hb⟩
          refine ⟨_, rfl, ?_⟩
          have n0_ := aM (Kd.R_elder' (rA HO_3.out) (Kd.R_base ho0) hb)
          have n1_ := aM (Kd.R_elder' (rA HO227.out) (Kd.R_base ho0) hb)
          have n2_ := aM (Kd.R_lower (Kd.R_new' (Kd.R_new' (Kd.R_newM (M := fun k_ => (w.heap.size ≤ k_)) ho0 (below_size (bS HB.out)) (fun k_ h_ => h_)) (Kd.R_lt (rA HO_3.out))) (Kd.R_lt (rA HO227.out))) (below_size (bS HB.out)))
          have n3_ := aM (kB BK180.out hb)
          have n4_ := aM (below_step (bS HB.out) hb)
          clear HO_3
          clear HO227
          clear BK180
          clear HB
          have HO_3 := n0_
          have HO227 := n1_
          have HO230 := n2_
          have BK180 := n3_
          have HB := n4_
          clear n0_ n1_ n2_ n3_ n4_
          (try clear hb)
          (try clear hb2)
          (try clear hk)
          (try clear hi)
          (try clear ho0)
          obtain ⟨Ao78, co78, eo78⟩ := Kd.R_slice HO230.out
          (first | subst eo78 | (injection eo78 with f1_ f2_ f3_; have f4_ := f1_.symm; have f5_ := f3_.symm; clear f1_ f2_ f3_; subst f4_; subst f5_))
          refine hK.out _ _ ⟨(blk_cell BK180.out 0).trans rfl, (blk_cell BK180.out 1).trans rfl, (blk_cell BK180.out 2).trans rfl, (blk_cell BK180.out 3).trans rfl, (blk_cell BK180.out 4).trans rfl, (blk_cell BK180.out 5).trans rfl⟩ (fun hHeld => ?_)
          clear hK K
          refine norm_ (a' := ?_) ?_ ?_
          rotate_left
          ·show Act.put _ (some 75) _ = _
           simp only [Act.put, List.setIfInBounds_toArray, List.set_cons_zero, List.set_cons_succ, i64_w, i32_w]
           rfl
          refine one_ (i := 10) (N := some 79) #[true, true, true, true, true, true, true, true, true, true, true, false] rfl rfl (one_of HT_.out (by kernel_rfl)) (by decide) (fun K hK => ?_)
          refine goes_ Try.func35 (by kernel_rfl) rfl #[.slice Ao78 t228.length co78, .int .i64 (l0_3.length : Int)] (by rfl) rfl rfl (by (try simp only [List.map_toArray, List.map_cons, List.map_nil]); first | done | rfl | (simp only [List.length_drop, List.length_take]; rfl)) ?_
          with_reducible refine (spec_PutWord.calls _ _ t228 (l0_3.length : Int) t231 _ ?side1 ?side2 A70.out).mono ?_
          (case side1 => exact cR HO230.out)
          (case side2 => exact (Kd.R_reads' HO230.out).2.1)
          rintro e w79 ⟨v232, rfl, ho0, hb⟩
          refine ⟨_, rfl, ?_⟩
          have n0_ := aM (Kd.R_elder' (rA HO_3.out) (Kd.R_base ho0) hb)
          have n1_ := aM (Kd.R_elder' (rA HO227.out) (Kd.R_base ho0) hb)
          have n2_ := aM (Kd.R_elder' (rA HO230.out) (Kd.R_base ho0) hb)
          have n3_ := aM (Kd.R_lower (Kd.R_new' (Kd.R_new' (Kd.R_new' (Kd.R_newM (M := fun k_ => (w.heap.size ≤ k_)) ho0 (below_size (bS HB.out)) (fun k_ h_ => h_)) (Kd.R_lt (rA HO_3.out))) (Kd.R_lt (rA HO227.out))) (Kd.R_lt (rA HO230.out))) (below_size (bS HB.out)))
          have n4_ := aM (kB BK180.out hb)
          have n5_ := aM (below_step (bS HB.out) hb)
          clear HO_3
          clear HO227
          clear HO230
          clear BK180
          clear HB
          have HO_3 := n0_
          have HO227 := n1_
          have HO230 := n2_
          have HO233 := n3_
          have BK180 := n4_
          have HB := n5_
          clear n0_ n1_ n2_ n3_ n4_ n5_
          (try clear hb)
          (try clear hb2)
          (try clear hk)
          (try clear hi)
          (try clear ho0)
          refine hK.out _ _ ⟨(blk_cell BK180.out 0).trans rfl, (blk_cell BK180.out 1).trans rfl, (blk_cell BK180.out 2).trans rfl, (blk_cell BK180.out 3).trans rfl, (blk_cell BK180.out 4).trans rfl, (blk_cell BK180.out 5).trans rfl⟩ (fun hHeld => ?_)
          clear hK K
          refine norm_ (a' := ?_) ?_ ?_
          rotate_left
          ·show Act.put _ (some 79) _ = _
           simp only [Act.put, List.setIfInBounds_toArray, List.set_cons_zero, List.set_cons_succ, i64_w, i32_w]
           rfl
          refine pure_ (i := 11) (N := some 3) (v := ?_) (a' := ?_) #[true, true, true, true, true, true, true, true, true, true, true, true] rfl rfl (any_of HT_.out (by kernel_rfl)) (fun _ _ _ h => h) (Or.inl ⟨by rfl, ?_⟩) ?_ ?_
          rotate_left
          ·intro w'
           go_simp
           with_reducible rfl
          rotate_left
          ·simp only [Act.put, List.setIfInBounds_toArray, List.set_cons_zero, List.set_cons_succ, i64_w, i32_w]
           rfl
          refine done_ (done_of HT_.out (by kernel_rfl)) ?_
          try go_wp2
          have n0_ := aM (Kd.R_drew HO_3.out)
          have n1_ := aM (Kd.R_drew HO227.out)
          have n2_ := aM (Kd.R_drew HO230.out)
          have n3_ := aM (Kd.R_drew HO233.out)
          have n4_ := aM (blk_drew BK180.out)
          have n5_ := aM (below_drew1 HB.out)
          clear HO_3
          clear HO227
          clear HO230
          clear HO233
          clear BK180
          clear HB
          have HO_3 := n0_
          have HO227 := n1_
          have HO230 := n2_
          have HO233 := n3_
          have BK180 := n4_
          have HB := n5_
          clear n0_ n1_ n2_ n3_ n4_ n5_
          refine start_ (n := 12) (S := fun w' => w'.cell? ⟨gb180, 0, none⟩ = some (.int .i64 a0_0) ∧ w'.cell? ⟨gb180, 1, none⟩ = some (.int .i64 a0_1) ∧ w'.cell? ⟨gb180, 2, none⟩ = some (.int .i64 a0_2) ∧ w'.cell? ⟨gb180, 3, none⟩ = some (.slice A0_3 l0_3.length c0_3) ∧ w'.cell? ⟨gb180, 4, none⟩ = some (.slice A0_4 l0_4.length c0_4) ∧ w'.cell? ⟨gb180, 5, none⟩ = some (.int .i64 a0_5)) (ds := []) #[false, false, false, false, false, false, false, false, false, false, false, false] (by kernel_rfl) rfl rfl ⟨(blk_cell BK180.out 0).trans rfl, (blk_cell BK180.out 1).trans rfl, (blk_cell BK180.out 2).trans rfl, (blk_cell BK180.out 3).trans rfl, (blk_cell BK180.out 4).trans rfl, (blk_cell BK180.out 5).trans rfl⟩ (fun hHeld => ?_); refine with_tabW spec_PutReq.tab17 spec_PutReq.bits17 (fun HT_ HW_ => ?_)
          generalize w79.drew = w80 at HO_3 HO227 HO230 HO233 BK180 HB hHeld ⊢
          refine pure_ (i := 0) (N := some 80) (v := ?_) (a' := ?_) #[true, false, false, false, false, false, false, false, false, false, false, false] rfl rfl (any_of HT_.out (by kernel_rfl)) (fun _ _ _ h => h) (Or.inl ⟨by rfl, ?_⟩) ?_ ?_
          rotate_left
          ·intro w'
           go_simp
           with_reducible rfl
          rotate_left
          ·simp only [Act.put, List.setIfInBounds_toArray, List.set_cons_zero, List.set_cons_succ, i64_w, i32_w]
           rfl
          refine pure_ (i := 1) (N := some 81) (v := ?_) (a' := ?_) #[true, true, false, false, false, false, false, false, false, false, false, false] rfl rfl (any_of HT_.out (by kernel_rfl)) (fun _ _ _ h => h) (Or.inl ⟨by rfl, ?_⟩) ?_ ?_
          rotate_left
          ·intro w'
           go_simp
           with_reducible rfl
          rotate_left
          ·simp only [Act.put, List.setIfInBounds_toArray, List.set_cons_zero, List.set_cons_succ, i64_w, i32_w]
           rfl
          refine pure_ (i := 8) (N := some 88) (v := ?_) (a' := ?_) #[true, true, false, false, false, false, false, false, true, false, false, false] rfl rfl (any_of HT_.out (by kernel_rfl)) (fun _ _ _ h => h) (Or.inl ⟨by rfl, ?_⟩) ?_ ?_
          rotate_left
          ·intro w'
           go_simp
           with_reducible rfl
          rotate_left
          ·simp only [Act.put, List.setIfInBounds_toArray, List.set_cons_zero, List.set_cons_succ, i64_w, i32_w]
           rfl
          refine take_ (i := 2) (N := some 82) (v := ?_) (a' := ?_) #[true, true, true, false, false, false, false, false, true, false, false, false] rfl rfl (take_ofW HT_.out HW_.out (by kernel_rfl)) (fun _ _ _ h => h) (Or.inl ⟨by rfl, ?_⟩) hHeld ?_ ?_
          rotate_left
          ·rintro w' ⟨s0, s1, s2, s3, s4, s5⟩
           go_simp
           with_reducible rfl
          rotate_left
          ·simp only [Act.put, List.setIfInBounds_toArray, List.set_cons_zero, List.set_cons_succ, i64_w, i32_w]
           rfl
          refine pure_ (i := 3) (N := some 83) (v := ?_) (a' := ?_) #[true, true, true, true, false, false, false, false, true, false, false, false] rfl rfl (any_of HT_.out (by kernel_rfl)) (fun _ _ _ h => h) (Or.inl ⟨by rfl, ?_⟩) ?_ ?_
          rotate_left
          ·intro w'
           go_simp
           with_reducible rfl
          rotate_left
          ·simp only [Act.put, List.setIfInBounds_toArray, List.set_cons_zero, List.set_cons_succ, i64_w, i32_w]
           rfl
          refine pure_ (i := 4) (N := some 84) (v := ?_) (a' := ?_) #[true, true, true, true, true, false, false, false, true, false, false, false] rfl rfl (any_of HT_.out (by kernel_rfl)) (fun _ _ _ h => h) (Or.inl ⟨by rfl, ?_⟩) ?_ ?_
          rotate_left
          ·intro w'
           go_simp
           with_reducible rfl
          rotate_left
          ·simp only [Act.put, List.setIfInBounds_toArray, List.set_cons_zero, List.set_cons_succ, i64_w, i32_w]
           rfl
          refine pure_ (i := 5) (N := some 85) (v := ?_) (a' := ?_) #[true, true, true, true, true, true, false, false, true, false, false, false] rfl rfl (any_of HT_.out (by kernel_rfl)) (fun _ _ _ h => h) (Or.inl ⟨by rfl, ?_⟩) ?_ ?_
          rotate_left
          ·intro w'
           go_simp
           with_reducible rfl
          rotate_left
          ·simp only [Act.put, List.setIfInBounds_toArray, List.set_cons_zero, List.set_cons_succ, i64_w, i32_w]
           rfl
          refine take_ (i := 9) (N := some 89) (v := ?_) (a' := ?_) #[true, true, true, true, true, true, false, false, true, true, false, false] rfl rfl (take_ofW HT_.out HW_.out (by kernel_rfl)) (fun _ _ _ h => h) (Or.inl ⟨by rfl, ?_⟩) hHeld ?_ ?_
          rotate_left
          ·rintro w' ⟨s0, s1, s2, s3, s4, s5⟩
           go_simp
           with_reducible rfl
          rotate_left
          ·simp only [Act.put, List.setIfInBounds_toArray, List.set_cons_zero, List.set_cons_succ, i64_w, i32_w]
           rfl
          refine one_ (i := 6) (N := some 86) #[true, true, true, true, true, true, true, false, true, true, false, false] rfl rfl (one_of HT_.out (by kernel_rfl)) (by decide) (fun K hK => ?_)
          refine Kd.R_lit_step (Kd.int .u8) _ 5 ?hg (N := 86) ?hd (xs := ([(jz) % 256] : List Int)) (inner := [.int .u8 ((jz) % 256)]) (ok := fun _ => True) (okp := fun _ => True) ?hr ?hp (fun _ hk => hk) trivial (Below.refl _ _) (Nat.le_refl _) (by simp) ?_; (case hd => rfl); (case hg => rfl); (case hr => first | (go_simp; done) | (go_simp; rfl)); (case hp => exact (Reps.one (show Kd.M (Kd.int .u8) _ _ _ ((jz) % 256) [.int .u8 ((jz) % 256)] from rfl) (Reps.none _ _)))
          intro v235 w81 ho82 hb hg_ hnew_
          clear hg_ hnew_
          (first | rw [← Ny234.out] at ho82 | (simp only [Int.reduceToNat] at ho82; rw [← Ny234.out] at ho82))
          have n0_ := aM (Kd.R_elder' (rA HO_3.out) (Kd.R_base ho82) hb)
          have n1_ := aM (Kd.R_elder' (rA HO227.out) (Kd.R_base ho82) hb)
          have n2_ := aM (Kd.R_elder' (rA HO230.out) (Kd.R_base ho82) hb)
          have n3_ := aM (Kd.R_elder' (rA HO233.out) (Kd.R_base ho82) hb)
          have n4_ := aM (Kd.R_lower (Kd.R_new' (Kd.R_new' (Kd.R_new' (Kd.R_new' (Kd.R_newM (M := fun k_ => (w.heap.size ≤ k_)) ho82 (below_size (bS HB.out)) (fun k_ h_ => h_)) (Kd.R_lt (rA HO_3.out))) (Kd.R_lt (rA HO227.out))) (Kd.R_lt (rA HO230.out))) (Kd.R_lt (rA HO233.out))) (below_size (bS HB.out)))
          have n5_ := aM (kB BK180.out hb)
          have n6_ := aM (below_step (bS HB.out) hb)
          clear HO_3
          clear HO227
          clear HO230
          clear HO233
          clear BK180
          clear HB
          have HO_3 := n0_
          have HO227 := n1_
          have HO230 := n2_
          have HO233 := n3_
          have HO236 := n4_
          have BK180 := n5_
          have HB := n6_
          clear n0_ n1_ n2_ n3_ n4_ n5_ n6_
          clear hb ho82
          obtain ⟨Ao84, co84, eo84⟩ := Kd.R_slice HO236.out
          (first | subst eo84 | (injection eo84 with f1_ f2_ f3_; have f4_ := f1_.symm; have f5_ := f3_.symm; clear f1_ f2_ f3_; subst f4_; subst f5_))
          refine hK.out _ _ ⟨(blk_cell BK180.out 0).trans rfl, (blk_cell BK180.out 1).trans rfl, (blk_cell BK180.out 2).trans rfl, (blk_cell BK180.out 3).trans rfl, (blk_cell BK180.out 4).trans rfl, (blk_cell BK180.out 5).trans rfl⟩ (fun hHeld => ?_)
          clear hK K
          refine norm_ (a' := ?_) ?_ ?_
          rotate_left
          ·show Act.put _ (some 86) _ = _
           simp only [Act.put, List.setIfInBounds_toArray, List.set_cons_zero, List.set_cons_succ, i64_w, i32_w]
           rfl
          refine one_ (i := 7) (N := some 87) #[true, true, true, true, true, true, true, true, true, true, false, false] rfl rfl (one_of HT_.out (by kernel_rfl)) (by decide) (fun K hK => ?_)
          refine Kd.R_append_rows_step (Kd.int .u8) (w0 := w) w.heap.size (by rfl) (.tmp 80) (.tmp 86) 33 5 (.int .u8 0) 1 rfl Try.underlying33 info5 rfl (by decide) (by omega) v232 t231 y234 _ _ _ (fun k_ => (w.heap.size ≤ k_) ∧ some k_ ≠ (.slice Ao74 t188.length co74 : Value).ownBlock ∧ some k_ ≠ (.slice Ao76 t225.length co76 : Value).ownBlock ∧ some k_ ≠ (.slice Ao78 t228.length co78 : Value).ownBlock ∧ some k_ ≠ (.slice Ao84 y234.length co84 : Value).ownBlock) (fun _ => False) rfl rfl ?aO ?aR (fun _ _ h => h) (fun _ h => h.elim) ?aF ?aB ?aS ?aL ?_
          (case aR => repeat (first | exact (Kd.R_reads' HO236.out).2.2 | (with_reducible refine Kd.C_alloc ?_ _) | (with_reducible refine Kd.C_drewN ?_ _) | (with_reducible refine Kd.C_drew ?_)))
          (case aB => exact (bS HB.out))
          (case aF => exact (fun k_ hk => ⟨(Nat.le_trans (below_size (bS HB.out)) hk), Kd.fresh' (Kd.R_lt (rA HO_3.out)) k_ hk, Kd.fresh' (Kd.R_lt (rA HO227.out)) k_ hk, Kd.fresh' (Kd.R_lt (rA HO230.out)) k_ hk, Kd.fresh' (Kd.R_lt (rA HO236.out)) k_ hk⟩))
          (case aO => exact (by (with_reducible repeat (first | apply Kd.R_alloc | apply Kd.R_drewN | apply Kd.R_drew)); exact Kd.R_mono HO233.out (fun _ hk => by first | exact ⟨hk.1.1.1.1.1, ⟨hk.1.1.1.2, ⟨hk.1.1.2, ⟨hk.1.2, hk.2⟩⟩⟩⟩ | (simp only [ne_eq] at hk ⊢; simp [hk]))))
          (case aS => exact (below_size (bS HB.out)))
          (case aL => have := LMc71.out; omega)
          intro v238 w83 ho hb hg hat
          rw [← Ny237.out] at ho
          have n0_ := aM (Kd.R_after (ok := (fun k_ => (w.heap.size ≤ k_) ∧ some k_ ≠ (.slice Ao76 t225.length co76 : Value).ownBlock ∧ some k_ ≠ (.slice Ao78 t228.length co78 : Value).ownBlock ∧ some k_ ≠ (.slice Ao84 y234.length co84 : Value).ownBlock)) (by (with_reducible repeat (first | apply Kd.R_alloc | apply Kd.R_drewN | apply Kd.R_drew)); exact Kd.R_mono HO_3.out (fun _ hk => by first | exact ⟨⟨hk.1.1.1.1, ⟨hk.1.1.1.2, ⟨hk.1.1.2, hk.2⟩⟩⟩, hk.1.2⟩ | (simp only [ne_eq] at hk ⊢; simp [hk]))) hg hat)
          have n1_ := aM (blk_grown (g := gb180) (o := .cells #[.int .i64 a0_0, .int .i64 a0_1, .int .i64 a0_2, .slice A0_3 l0_3.length c0_3, .slice A0_4 l0_4.length c0_4, .int .i64 a0_5] 29 (0, 0)) (kA BK180.out) hg (Kd.R_ne HO233.out BK180.out (by decide)))
          have n2_ := aM (Kd.R_after (ok := (fun k_ => (w.heap.size ≤ k_) ∧ some k_ ≠ (.slice Ao74 t188.length co74 : Value).ownBlock ∧ some k_ ≠ (.slice Ao78 t228.length co78 : Value).ownBlock ∧ some k_ ≠ (.slice Ao84 y234.length co84 : Value).ownBlock)) (by (with_reducible repeat (first | apply Kd.R_alloc | apply Kd.R_drewN | apply Kd.R_drew)); exact Kd.R_mono HO227.out (fun _ hk => by first | exact ⟨⟨hk.1.1.1.1.1, ⟨hk.1.1.1.2, ⟨hk.1.1.2, hk.2⟩⟩⟩, hk.1.2⟩ | (simp only [ne_eq] at hk ⊢; simp [hk]))) hg hat)
          have n3_ := aM (Kd.R_after (ok := (fun k_ => (w.heap.size ≤ k_) ∧ some k_ ≠ (.slice Ao74 t188.length co74 : Value).ownBlock ∧ some k_ ≠ (.slice Ao76 t225.length co76 : Value).ownBlock ∧ some k_ ≠ (.slice Ao84 y234.length co84 : Value).ownBlock)) (by (with_reducible repeat (first | apply Kd.R_alloc | apply Kd.R_drewN | apply Kd.R_drew)); exact Kd.R_mono HO230.out (fun _ hk => by first | exact ⟨⟨hk.1.1.1.1.1, ⟨hk.1.1.1.2, ⟨hk.1.1.2, hk.2⟩⟩⟩, hk.1.2⟩ | (simp only [ne_eq] at hk ⊢; simp [hk]))) hg hat)
          have n4_ := aM (Kd.R_after (ok := (fun k_ => (w.heap.size ≤ k_) ∧ some k_ ≠ (.slice Ao74 t188.length co74 : Value).ownBlock ∧ some k_ ≠ (.slice Ao76 t225.length co76 : Value).ownBlock ∧ some k_ ≠ (.slice Ao78 t228.length co78 : Value).ownBlock)) (by (with_reducible repeat (first | apply Kd.R_alloc | apply Kd.R_drewN | apply Kd.R_drew)); exact Kd.R_mono HO236.out (fun _ hk => by first | exact ⟨⟨hk.1.1.1.1.1, ⟨hk.1.1.1.2, ⟨hk.1.1.2, hk.1.2⟩⟩⟩, hk.2⟩ | (simp only [ne_eq] at hk ⊢; simp [hk]))) hg hat)
          have n5_ := aM (hb)
          have n6_ := aM (ho)
          clear HO_3
          clear BK180
          clear HO227
          clear HO230
          clear HO236
          clear HB
          clear HO233
          have HO_3 := n0_
          have BK180 := n1_
          have HO227 := n2_
          have HO230 := n3_
          have HO236 := n4_
          have HB := n5_
          have HO239 := n6_
          clear n0_ n1_ n2_ n3_ n4_ n5_ n6_
          clear ho hb hg hat
          obtain ⟨Ao85, co85, eo85⟩ := Kd.R_slice HO239.out
          (first | subst eo85 | (injection eo85 with f1_ f2_ f3_; have f4_ := f1_.symm; have f5_ := f3_.symm; clear f1_ f2_ f3_; subst f4_; subst f5_))
          refine hK.out _ _ ⟨(blk_cell BK180.out 0).trans rfl, (blk_cell BK180.out 1).trans rfl, (blk_cell BK180.out 2).trans rfl, (blk_cell BK180.out 3).trans rfl, (blk_cell BK180.out 4).trans rfl, (blk_cell BK180.out 5).trans rfl⟩ (fun hHeld => ?_)
          clear hK K
          refine norm_ (a' := ?_) ?_ ?_
          rotate_left
          ·show Act.put _ (some 87) _ = _
           simp only [Act.put, List.setIfInBounds_toArray, List.set_cons_zero, List.set_cons_succ, i64_w, i32_w]
           rfl
          refine one_ (i := 10) (N := some 90) #[true, true, true, true, true, true, true, true, true, true, true, false] rfl rfl (one_of HT_.out (by kernel_rfl)) (by decide) (fun K hK => ?_)
          refine goes_ Try.func37 (by kernel_rfl) rfl #[.slice Ao85 y237.length co85, .slice A0_3 l0_3.length c0_3] (by rfl) rfl rfl (by (try simp only [List.map_toArray, List.map_cons, List.map_nil]); first | done | rfl | (simp only [List.length_drop, List.length_take]; rfl)) ?_
          with_reducible refine (spec_l3PutWords.calls kj19 (fun k_ => some k_ = (.slice Ao85 y237.length co85 : Value).ownBlock) _ _ y237 _ _ l0_3 t240 _ ?side1 ?side2 ?side3 A72.out).mono ?_
          (case side1 => exact Kd.R_V (Kd.R_tight rfl (Kd.R_types (HO239.out) BK180.out (by decide))))
          (case side2 => exact cB HR0_3.out HB.out)
          (case side3 => exact HC0_3.out)
          rintro e w86 ⟨v241, rfl, ho0, hb⟩
          refine ⟨_, rfl, ?_⟩
          have n0_ := aM (rB HO_3.out hb)
          have n1_ := aM (rB HO227.out hb)
          have n2_ := aM (rB HO230.out hb)
          have n3_ := aM (rB HO236.out hb)
          have n4_ := aM (rB HO239.out hb)
          have n5_ := aM (Kd.V_lower (Kd.V_mono (ok' := fun k_ => (w.heap.size ≤ k_) ∧ some k_ ≠ (.slice Ao74 t188.length co74 : Value).ownBlock ∧ some k_ ≠ (.slice Ao76 t225.length co76 : Value).ownBlock ∧ some k_ ≠ (.slice Ao78 t228.length co78 : Value).ownBlock ∧ some k_ ≠ (.slice Ao84 y234.length co84 : Value).ownBlock ∧ k_ ≠ gb180) ho0 (fun k_ hk_ => ⟨Or.elim hk_ (fun hs_ => ((Kd.R_types (HO239.out) BK180.out (by decide)).1 k_ hs_.symm).1.1) (fun hn_ => (Nat.le_trans (below_size (bS HB.out)) hn_)), Or.elim hk_ (fun hs_ => ((Kd.R_types (HO239.out) BK180.out (by decide)).1 k_ hs_.symm).1.2.1) (fun hn_ => (Kd.fresh' (Kd.R_lt (rA HO_3.out)) k_ hn_)), Or.elim hk_ (fun hs_ => ((Kd.R_types (HO239.out) BK180.out (by decide)).1 k_ hs_.symm).1.2.2.1) (fun hn_ => (Kd.fresh' (Kd.R_lt (rA HO227.out)) k_ hn_)), Or.elim hk_ (fun hs_ => ((Kd.R_types (HO239.out) BK180.out (by decide)).1 k_ hs_.symm).1.2.2.2.1) (fun hn_ => (Kd.fresh' (Kd.R_lt (rA HO230.out)) k_ hn_)), Or.elim hk_ (fun hs_ => ((Kd.R_types (HO239.out) BK180.out (by decide)).1 k_ hs_.symm).1.2.2.2.2) (fun hn_ => (Kd.fresh' (Kd.R_lt (rA HO236.out)) k_ hn_)), Or.elim hk_ (fun hs_ => ((Kd.R_types (HO239.out) BK180.out (by decide)).1 k_ hs_.symm).2) (fun hn_ => (Kd.freshB (g := gb180) (o := .cells #[.int .i64 a0_0, .int .i64 a0_1, .int .i64 a0_2, .slice A0_3 l0_3.length c0_3, .slice A0_4 l0_4.length c0_4, .int .i64 a0_5] 29 (0, 0)) (kA BK180.out) k_ hn_))⟩)) (below_size (bS HB.out)))
          have n6_ := aM (kB BK180.out hb)
          have n7_ := aM (below_step (bS HB.out) hb)
          clear HO_3
          clear HO227
          clear HO230
          clear HO236
          clear HO239
          clear BK180
          clear HB
          have HO_3 := n0_
          have HO227 := n1_
          have HO230 := n2_
          have HO236 := n3_
          have HO239 := n4_
          have HO242 := n5_
          have BK180 := n6_
          have HB := n7_
          clear n0_ n1_ n2_ n3_ n4_ n5_ n6_ n7_
          (try clear hb)
          (try clear hb2)
          (try clear hk)
          (try clear hi)
          (try clear ho0)
          refine hK.out _ _ ⟨(blk_cell BK180.out 0).trans rfl, (blk_cell BK180.out 1).trans rfl, (blk_cell BK180.out 2).trans rfl, (blk_cell BK180.out 3).trans rfl, (blk_cell BK180.out 4).trans rfl, (blk_cell BK180.out 5).trans rfl⟩ (fun hHeld => ?_)
          clear hK K
          refine norm_ (a' := ?_) ?_ ?_
          rotate_left
          ·show Act.put _ (some 90) _ = _
           simp only [Act.put, List.setIfInBounds_toArray, List.set_cons_zero, List.set_cons_succ, i64_w, i32_w]
           rfl
          refine pure_ (i := 11) (N := some 2) (v := ?_) (a' := ?_) #[true, true, true, true, true, true, true, true, true, true, true, true] rfl rfl (any_of HT_.out (by kernel_rfl)) (fun _ _ _ h => h) (Or.inl ⟨by rfl, ?_⟩) ?_ ?_
          rotate_left
          ·intro w'
           go_simp
           with_reducible rfl
          rotate_left
          ·simp only [Act.put, List.setIfInBounds_toArray, List.set_cons_zero, List.set_cons_succ, i64_w, i32_w]
           rfl
          refine done_ (done_of HT_.out (by kernel_rfl)) ?_
          try go_wp2
          go_ret
          exact ⟨_, by first | rfl | (simp [errW_none, errW_some] <;> rfl) | (simp [*, errW_none, errW_some] <;> rfl), by (with_reducible repeat (first | apply Kd.V_alloc | apply Kd.V_drewN | apply Kd.V_drew)); exact Kd.V_mono HO242.out (fun _ hk => hk.1), bS HB.out⟩
         ·rw [if_neg c71] at H
          exact absurd H (by simp)
        ·rw [if_neg c67] at H
         have c67b0 : (a0_0 == 23) = false := beq_eq_false_iff_ne.mpr c67
         have c67b1 : (a0_0 != 23) = true := bne_iff_ne.mpr c67
         replace H := Option.bind_eq_some_iff.mp H
         obtain ⟨t243, A870, H⟩ := H
         replace H : (some t243) = some r := H
         have A87 := aM A870
         clear A870
         obtain rfl := Option.some.inj H
         obtain ⟨hcz88_0, hfz88_0, hcz88_1, hfz88_1, hcz88_2, hfz88_2, hcz88_3, hfz88_3, hcz88_4, hfz88_4, hcz88_5, hfz88_5⟩ := bk6 BK180.out
         obtain ⟨Ao89, co89, eo89⟩ := Kd.R_slice HO_3.out
         subst eo89
         go_wp2_with (first | ((with_reducible refine gate_callee (f := 35) rfl ?_); refine gL (some 94) rfl rfl Try.func35 (by kernel_rfl) rfl #[.slice Ao89 t188.length co89, .int .i64 a0_2] rfl ?_; (with_reducible refine (spec_PutWord.calls _ _ t188 a0_2 t243 _ ?side1 ?side2 A87.out).mono ?_); (case side1 => exact cR HO_3.out); (case side2 => exact (Kd.R_reads' HO_3.out).2.1); rintro e w90 ⟨v244, rfl, ho0, hb⟩; refine ⟨_, rfl, ?_⟩; have _ := aM (Kd.R_elder' (rA HO_3.out) (Kd.R_base ho0) hb); have _ := aM (Kd.R_lower (Kd.R_new' (Kd.R_newM (M := fun k_ => (w.heap.size ≤ k_)) ho0 (below_size (bS HB.out)) (fun k_ h_ => h_)) (Kd.R_lt (rA HO_3.out))) (below_size (bS HB.out))); have _ := aM (kB BK180.out hb); have _ := aM (below_step (bS HB.out) hb); clear HO_3 BK180 HB; rename_i HO_3 HO245 BK180 HB; (try clear hb); (try clear ho0)))
         go_ret
         exact ⟨_, by first | rfl | (simp [errW_none, errW_some] <;> rfl) | (simp [*, errW_none, errW_some] <;> rfl), Kd.R_V (by (with_reducible repeat (first | apply Kd.R_alloc | apply Kd.R_drewN | apply Kd.R_drew)); exact Kd.R_mono HO245.out (fun _ hk => hk.1.1)), bS HB.out⟩
 ·replace c3 := Bool.eq_false_iff.mpr c3
  subst c3
  have H1 : (some (([] : List Int))) = some r := by rw [if_neg (show ¬ (false = true) by decide)] at H; exact H
  clear H
  have H := H1
  clear H1
  obtain ⟨y182, hy182⟩ : ∃ y_ : List Int, y_ = (([] : List Int)) := ⟨_, rfl⟩
  replace H : (some y182) = some r := by first | (rw [hy182]; with_reducible exact H) | (have H2_ := (Option.bind_some _ _).symm.trans H; rw [hy182]; with_reducible exact H2_) | (have H2_ := (Option.bind_some _ _).symm.trans H; with_reducible exact H2_) | with_reducible exact H | (rw [hy182]; exact H) | exact H
  have Ny182 := aM hy182
  clear hy182
  obtain rfl := Option.some.inj H
  go_enter Try.func12, Try.ntmps12
  go_wp2_with (first | ((with_reducible refine gate_dst (N := 1) rfl ?_); refine box_event ?hg (N := 1) ?hd (cs := #[.int .i64 a0_0, .int .i64 a0_1, .int .i64 a0_2, .slice A0_3 l0_3.length c0_3, .slice A0_4 l0_4.length c0_4, .int .i64 a0_5]) (t := 29) ?hr ?_; (case hd => rfl); (case hg => rfl); (case hr => first | (go_simp; done) | (go_simp; rfl)); intro gb180 hg w91 hbox hb; have _ := aM (below_step (bS HB.out) hb); have _ := aM (hbox); have _ := aM (leG hg (bS HB.out)); have _ := aM (leG hg (bS HB.out)); clear HB; rename_i HB BK180 GW180 GE180; clear hb hbox hg; obtain ⟨hcz92_0, hfz92_0, hcz92_1, hfz92_1, hcz92_2, hfz92_2, hcz92_3, hfz92_3, hcz92_4, hfz92_4, hcz92_5, hfz92_5⟩ := bk6 BK180.out) | ((with_reducible refine gate_callee (f := 24) rfl ?_); refine gL (some 6) rfl rfl Try.func24 (by kernel_rfl) rfl #[.agg #[.int .i64 a0_0, .int .i64 a0_1, .int .i64 a0_2, .slice A0_3 l0_3.length c0_3, .slice A0_4 l0_4.length c0_4, .int .i64 a0_5]] rfl ?_; (with_reducible refine (spec_ReqOk.calls k a0_0 a0_1 a0_2 _ _ l0_3 _ _ l0_4 a0_5 false _ ?side1 ?side2 ?side3 ?side4 A2.out).mono ?_); (case side1 => exact cB HR0_3.out HB.out); (case side2 => exact HC0_3.out); (case side3 => exact cB HR0_4.out HB.out); (case side4 => exact HC0_4.out); rintro e w93 ⟨rfl, hb⟩; refine ⟨_, rfl, ?_⟩; have _ := aM (kB BK180.out hb); have _ := aM (below_step (bS HB.out) hb); clear BK180 HB; rename_i BK180 HB; (try clear hb)) | ((with_reducible refine gate_dst (N := 8) rfl ?_); refine Kd.R_lit (Kd.int .u8) _ 5 ?hg (N := 8) ?hd (xs := ([] : List Int)) (inner := []) (ok := fun _ => True) (okp := fun _ => True) ?hr ?hp (fun _ hk => hk) trivial (Below.refl _ _) (Nat.le_refl _) (by simp) ?_; (case hd => rfl); (case hg => rfl); (case hr => first | (go_simp; done) | (go_simp; rfl)); (case hp => exact (Reps.none _ _)); intro v183 w94 ho95 hb hg_ hnew_; clear hg_ hnew_; (first | rw [← Ny182.out] at ho95 | (simp only [Int.reduceToNat] at ho95; rw [← Ny182.out] at ho95)); have _ := aM (Kd.R_lower (Kd.R_newM (M := fun k_ => (w.heap.size ≤ k_)) ho95 (below_size (bS HB.out)) (fun k_ h_ => h_)) (below_size (bS HB.out))); have _ := aM (kB BK180.out hb); have _ := aM (below_step (bS HB.out) hb); clear BK180 HB; rename_i HO184 BK180 HB; clear hb ho95))
  go_ret
  exact ⟨_, by first | rfl | (simp [errW_none, errW_some] <;> rfl) | (simp [*, errW_none, errW_some] <;> rfl), Kd.R_V (by (with_reducible repeat (first | apply Kd.R_alloc | apply Kd.R_drewN | apply Kd.R_drew)); exact Kd.R_mono HO184.out (fun _ hk => hk.1)), bS HB.out⟩

end Go.Proofs.Yteoghpcgompajaa.PFnExactGetReq
