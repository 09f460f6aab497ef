/- What impl.GetResp does: it takes an answer out of bytes. No condition. -/
import Derived.Test.YtfiplepbmennbaaM
import Derived.Test.YtfiplepbmennbaaGResp
import Derived.Test.YtfiplepbmennbaaGTakeC
namespace Go.Proofs.Ytfiplepbmennbaa.G
open Go Go.RowKit Go.Proofs.Ytfiplepbmennbaa.K Go.Proofs.YtfiplepbmennbaaW.PrintWords Go.Proofs.YtfiplepbmennbaaW.PrintLast Go.Proofs.YtfiplepbmennbaaW.PrintMore
set_option linter.unusedVariables false
set_option linter.unusedSimpArgs false

/-- An answer, once it is taken: right, or not. -/
def respFin (k : Nat) (l : List Int) (r1 r2 r3 r4 : Int) (r5 : List Int) (r6 : List Bool) (p : Int) (b : Bool) : Option (Int × Int × Int × Int × List Int × List Bool × Int) :=
  if b = true then some (0, 0, 0, 0, [], [], 3) else if p = (l.length : Int) then (impl_RespOk.f k r1 r2 r3 r4 r5 r6).bind fun o => if o = true then some (r1, r2, r3, r4, r5, r6, 0) else some (0, 0, 0, 0, [], [], 3) else some (0, 0, 0, 0, [], [], 3)
def impl_GetResp.f (k : Nat) (l0 : List Int) : Option (Int × Int × Int × Int × List Int × List Bool × Int) :=
  if l0.length = 0 then some (0, 0, 0, 0, [], [], 1) else (impl_isKind.f (wrap64 (Go.bits .and .u8 (rd l0 0) 127))).bind fun t => if t = true then
    if 128 ≤ rd l0 0 then (impl_taker_byte.f l0 1 false).bind fun q => respFin k l0 (wrap64 (Go.bits .and .u8 (rd l0 0) 127)) q.1 0 0 [] [] q.2.1 (q.2.2 || (q.1 == 0))
    else (impl_taker_resp.f k l0 1 false (wrap64 (Go.bits .and .u8 (rd l0 0) 127))).bind fun q => respFin k l0 q.1 q.2.1 q.2.2.1 q.2.2.2.1 q.2.2.2.2.1 q.2.2.2.2.2.1 q.2.2.2.2.2.2.1 q.2.2.2.2.2.2.2
  else some (0, 0, 0, 0, [], [], 1)
theorem respFin.mono (l : List Int) (r1 r2 r3 r4 : Int) (r5 : List Int) (r6 : List Bool) (p : Int) (b : Bool) (k : Nat) : LeO (respFin k l r1 r2 r3 r4 r5 r6 p b) (respFin (k + 1) l r1 r2 r3 r4 r5 r6 p b) :=
  LeO.ite (LeO.refl _) (LeO.ite (LeO.bind (impl_RespOk.mono _ _ _ _ _ _ _) fun _ => LeO.refl _) (LeO.refl _))
theorem impl_GetResp.mono : ∀ a0 k, LeO (impl_GetResp.f k a0) (impl_GetResp.f (k + 1) a0) := fun a0 k =>
  LeO.ite (LeO.refl _) (LeO.bind (LeO.refl _) fun _ => LeO.ite (LeO.ite (LeO.bind (LeO.refl _) fun _ => respFin.mono _ _ _ _ _ _ _ _ _ _) (LeO.bind (impl_taker_resp.mono _ _ _ _ _) fun _ => respFin.mono _ _ _ _ _ _ _ _ _ _)) (LeO.refl _))
/-- What is told of an answer out of bytes. -/
def GetRespPost (w : World) (r1 r2 r3 r4 : Int) (r5 : List Int) (r6 : List Bool) (r7 : Int) (e : Ending) (w' : World) : Prop := ∃ v4_ v5_ : Value, e = .returned (.tuple #[.agg #[.int .i64 r1, .int .i64 r2, .int .i64 r3, .int .i64 r4, v4_, v5_], .int .i64 r7]) ∧ Kd.R (Kd.int .i64) 3 w' w.heap.size (fun _ => True) v4_ r5 ∧ Kd.R Kd.bool 4 w' w.heap.size (fun _ => True) v5_ r6 ∧ Below w.heap.size w w'


set_option maxHeartbeats 8000000 in
set_option maxRecDepth 100000 in
theorem getResp_none (k : Nat) (A0 : Option Addr) (c0 : Nat) (l0 : List Int) (w : World) (hr0 : Kd.C (Kd.int .u8) w A0 l0.length l0) (hc0 : l0.length ≤ c0) (c0e : l0.length = 0) :
    Calls Try.prog 18 #[.slice A0 l0.length c0] w (GetRespPost w 0 0 0 0 [] [] 1) := by
  have HR := Aside0.mk hr0
  have HC := Aside0.mk hc0
  clear hr0 hc0
  have cz : ((l0.length : Int) == 0) = true := by simp [c0e]
  clear c0e
  go_enter Try.func18, Try.ntmps18
  go_wp2_with (first | ((with_reducible refine gate_dst (N := 2) rfl ?_); refine box_event ?hg (N := 2) ?hd (cs := #[.int .i64 0, .int .i64 0, .int .i64 0, .int .i64 0, .slice none 0 0, .slice none 0 0]) (t := 29) ?hr ?_; (case hd => rfl); (case hg => rfl); (case hr => first | (go_simp; done) | (go_simp; rfl)); intro g1 hg1 w1 hbox1 hb1; have HB1 := Aside0.mk hb1; have BK1_1 := Aside0.mk hbox1; have GE1 := Aside0.mk (show w.heap.size ≤ g1 by omega); obtain ⟨hz0, fz0, hz1, fz1, hz2, fz2, hz3, fz3, hz4, fz4, hz5, fz5⟩ := bk6 hbox1; (try have hx1 := (pw_cell_below hb1 HX.out)); clear hg1 hbox1 hb1))
  refine bodyPost_ret (results_ct rfl _ _ g1 29 #[.int .i64 0, .int .i64 0, .int .i64 0, .int .i64 0, .slice none 0 0, .slice none 0 0] (0, 0) _ rfl (kX BK1_1.out) Try.underlying29 rfl (by kernel_rfl)) rfl ?_
  exact ⟨_, _, rfl, Kd.R_nil _ _ _ _ _, Kd.R_nil _ _ _ _ _, by with_reducible repeat (first | exact HB1.out | refine below_set ?_ GE1.out | refine below_set ?_ GE2.out | refine below_set ?_ GE3.out | apply pw_below_drewN)⟩

set_option maxHeartbeats 8000000 in
set_option maxRecDepth 100000 in
theorem getResp_kind (k : Nat) (A0 : Option Addr) (c0 : Nat) (l0 : List Int) (w : World) (hr0 : Kd.C (Kd.int .u8) w A0 l0.length l0) (hc0 : l0.length ≤ c0) (c0e : l0.length ≠ 0) (h1 : impl_isKind.f (wrap64 (Go.bits .and .u8 (rd l0 0) 127)) = some false) :
    Calls Try.prog 18 #[.slice A0 l0.length c0] w (GetRespPost w 0 0 0 0 [] [] 1) := by
  have HR := Aside0.mk hr0
  have HC := Aside0.mk hc0
  clear hr0 hc0
  have cz : ((l0.length : Int) == 0) = false := by simp [c0e]
  have p1 : 0 ≤ (0 : Int) := by omega
  have q1 : (0 : Int) < (l0.length : Int) := by omega
  obtain ⟨ad, e0, hx0⟩ := Kd.at_int HR.out 0 p1 q1
  cases e0
  rw [show ad.add (Int.toNat 0) = ad from by cases ad; rfl] at hx0
  have HX := Aside0.mk hx0
  obtain ⟨m, hm⟩ : ∃ m, Go.bits .and .u8 (rd l0 0) 127 = m := ⟨_, rfl⟩
  obtain ⟨j, hj⟩ : ∃ j, wrap64 m = j := ⟨_, rfl⟩
  have hjw : IntKind.i64.wrap m = j := (i64_w _).trans hj
  rw [hm, hj] at h1
  have H1 := Aside0.mk h1
  have q2 : 0 < l0.length := by omega
  clear h1 c0e
  replace p1 := eq_true p1
  replace q1 := eq_true q1
  go_enter Try.func18, Try.ntmps18
  go_wp2_with (first | ((with_reducible refine gate_dst (N := 2) rfl ?_); refine box_event ?hg (N := 2) ?hd (cs := #[.int .i64 0, .int .i64 0, .int .i64 0, .int .i64 0, .slice none 0 0, .slice none 0 0]) (t := 29) ?hr ?_; (case hd => rfl); (case hg => rfl); (case hr => first | (go_simp; done) | (go_simp; rfl)); intro g1 hg1 w1 hbox1 hb1; have HB1 := Aside0.mk hb1; have BK1_1 := Aside0.mk hbox1; have GE1 := Aside0.mk (show w.heap.size ≤ g1 by omega); obtain ⟨hz0, fz0, hz1, fz1, hz2, fz2, hz3, fz3, hz4, fz4, hz5, fz5⟩ := bk6 hbox1; (try have hx1 := (pw_cell_below hb1 HX.out)); clear hg1 hbox1 hb1) | (go_at_call 50; refine (impl_isKind.calls j false _ H1.out).mono ?_; rintro e w' ⟨rfl, ⟨nd, rfl⟩⟩))
  refine bodyPost_ret (results_ct rfl _ _ g1 29 #[.int .i64 0, .int .i64 0, .int .i64 0, .int .i64 0, .slice none 0 0, .slice none 0 0] (0, 0) _ rfl (kX BK1_1.out) Try.underlying29 rfl (by kernel_rfl)) rfl ?_
  exact ⟨_, _, rfl, Kd.R_nil _ _ _ _ _, Kd.R_nil _ _ _ _ _, by with_reducible repeat (first | exact HB1.out | refine below_set ?_ GE1.out | refine below_set ?_ GE2.out | refine below_set ?_ GE3.out | apply pw_below_drewN)⟩

set_option maxHeartbeats 8000000 in
set_option maxRecDepth 100000 in
theorem getResp_fault_bad (k : Nat) (A0 : Option Addr) (c0 : Nat) (l0 : List Int) {f_ p_ : Int} {b_ : Bool} (w : World) (hr0 : Kd.C (Kd.int .u8) w A0 l0.length l0) (hc0 : l0.length ≤ c0) (c0e : l0.length ≠ 0) (h1 : impl_isKind.f (wrap64 (Go.bits .and .u8 (rd l0 0) 127)) = some true) (hge : 128 ≤ rd l0 0) (h2 : impl_taker_byte.f l0 1 false = some (f_, p_, b_)) (hbad : (b_ || (f_ == 0)) = true) :
    Calls Try.prog 18 #[.slice A0 l0.length c0] w (GetRespPost w 0 0 0 0 [] [] 3) := by
  have HR := Aside0.mk hr0
  have HC := Aside0.mk hc0
  clear hr0 hc0
  have cz : ((l0.length : Int) == 0) = false := by simp [c0e]
  have p1 : 0 ≤ (0 : Int) := by omega
  have q1 : (0 : Int) < (l0.length : Int) := by omega
  obtain ⟨ad, e0, hx0⟩ := Kd.at_int HR.out 0 p1 q1
  cases e0
  rw [show ad.add (Int.toNat 0) = ad from by cases ad; rfl] at hx0
  have HX := Aside0.mk hx0
  obtain ⟨m, hm⟩ : ∃ m, Go.bits .and .u8 (rd l0 0) 127 = m := ⟨_, rfl⟩
  obtain ⟨j, hj⟩ : ∃ j, wrap64 m = j := ⟨_, rfl⟩
  have hjw : IntKind.i64.wrap m = j := (i64_w _).trans hj
  rw [hm, hj] at h1
  have H1 := Aside0.mk h1
  have q2 : 0 < l0.length := by omega
  clear h1 c0e
  replace p1 := eq_true p1
  replace q1 := eq_true q1
  have cge : decide (128 ≤ rd l0 0) = true := decide_eq_true hge
  have H2 := Aside0.mk h2
  clear h2 hge
  have hd : b_ = true ∨ (b_ = false ∧ (f_ == 0) = true) := by cases b_ <;> simp_all
  clear hbad
  rcases hd with rfl | ⟨rfl, hf⟩
  · go_enter Try.func18, Try.ntmps18
    go_wp2_with (first | ((with_reducible refine gate_dst (N := 2) rfl ?_); refine box_event ?hg (N := 2) ?hd (cs := #[.int .i64 0, .int .i64 0, .int .i64 0, .int .i64 0, .slice none 0 0, .slice none 0 0]) (t := 29) ?hr ?_; (case hd => rfl); (case hg => rfl); (case hr => first | (go_simp; done) | (go_simp; rfl)); intro g1 hg1 w1 hbox1 hb1; have HB1 := Aside0.mk hb1; have BK1_1 := Aside0.mk hbox1; have GE1 := Aside0.mk (show w.heap.size ≤ g1 by omega); obtain ⟨hz0, fz0, hz1, fz1, hz2, fz2, hz3, fz3, hz4, fz4, hz5, fz5⟩ := bk6 hbox1; (try have hx1 := (pw_cell_below hb1 HX.out)); clear hg1 hbox1 hb1) | (go_at_call 50; refine (impl_isKind.calls j true _ H1.out).mono ?_; rintro e w' ⟨rfl, ⟨nd, rfl⟩⟩) | ((with_reducible refine gate_dst (N := 27) rfl ?_); refine box_event ?hg (N := 27) ?hd (cs := #[.slice (some ad) l0.length c0, .int .i64 1, .bool false]) (t := 72) ?hr ?_; (case hd => rfl); (case hg => rfl); (case hr => first | (go_simp; done) | (go_simp; rfl)); intro g2 hg2 w2 hbox2 hb2; have HB2 := Aside0.mk (below_step (pw_below_drewN HB1.out nd) hb2); have BK1_2 := Aside0.mk (blk_below (blk_drewN BK1_1.out nd) hb2); have GE2 := Aside0.mk (show w.heap.size ≤ g2 by rw [hg2]; exact below_size (pw_below_drewN HB1.out nd)); have N12 := Aside0.mk (show g1 ≠ g2 by rw [hg2]; exact Nat.ne_of_lt (blk_lt (blk_drewN BK1_1.out nd))); have HI2 := Aside0.mk (show IsS72 w w2 g2 l0 1 false from ⟨some ad, c0, hbox2, ⟨GE2.out, HC.out⟩, HR.out⟩); clear hx1; have hx2 := pw_cell_below HB2.out HX.out; clear hg2 hbox2 hb2) | ((with_reducible refine gate_dst (N := 6) rfl ?_); refine box_event ?hg (N := 6) ?hd (cs := #[.int .i64 0, .int .i64 0, .int .i64 0, .int .i64 0, .slice none 0 0, .slice none 0 0]) (t := 29) ?hr ?_; (case hd => rfl); (case hg => rfl); (case hr => first | (go_simp; done) | (go_simp; rfl)); intro g3 hg3 w3 hbox3 hb3; have HB3 := Aside0.mk (below_step HB2.out hb3); have GE3 := Aside0.mk (show w.heap.size ≤ g3 by rw [hg3]; exact below_size HB2.out); have BK1_3 := Aside0.mk (blk_below BK1_2.out hb3); have BK3_3 := Aside0.mk hbox3; have N13 := Aside0.mk (show g1 ≠ g3 by rw [hg3]; exact Nat.ne_of_lt (blk_lt BK1_2.out)); have HI3 := Aside0.mk (HI2.out.below hb3); have N23 := Aside0.mk (show g2 ≠ g3 by rw [hg3]; exact Nat.ne_of_lt HI2.out.lt); have N32 := Aside0.mk N23.out.symm; obtain ⟨za0, zb0, za1, zb1, za2, zb2, za3, zb3, za4, zb4, za5, zb5⟩ := bk6 hbox3; clear hx2 hz0 fz0 hz1 fz1 hz2 fz2 hz3 fz3 hz4 fz4 hz5 fz5; have hx3 := pw_cell_below HB3.out HX.out; obtain ⟨hz0, fz0, hz1, fz1, hz2, fz2, hz3, fz3, hz4, fz4, hz5, fz5⟩ := bk6 BK1_3.out; have n13 := N13.out; have n31 := n13.symm; have n23 := N23.out; have n32 := n23.symm; have n12 := N12.out; have n21 := n12.symm; have hxb := Aside0.mk (World.block_lt_of_cell? w _ HX.out); have na3 : ad.block ≠ g3 := Nat.ne_of_lt (Nat.lt_of_lt_of_le hxb.out GE3.out); have hx3a := (cell_far (p := ⟨g3, 0, none⟩) na3 (.int .i64 j)).trans hx3; clear hx3; have hx3b := (cell_far (p := ⟨g3, 1, none⟩) na3 (.int .i64 0)).trans hx3a; clear hx3a; have hx3c := (cell_far (p := ⟨g3, 2, none⟩) na3 (.int .i64 0)).trans hx3b; clear hx3b; have hx3d := (cell_far (p := ⟨g3, 3, none⟩) na3 (.int .i64 0)).trans hx3c; clear hx3c; have hx3e := (cell_far (p := ⟨g3, 4, none⟩) na3 (.slice none 0 0)).trans hx3d; clear hx3d; have hx3f := (cell_far (p := ⟨g3, 5, none⟩) na3 (.slice none 0 0)).trans hx3e; clear hx3e; have hx3 := hx3f; clear hx3f na3 hxb; clear hg3 hbox3 hb3) | (go_at_call 51; refine (impl_taker_byte.calls g2 l0 1 false f_ p_ _ w _ (by with_reducible repeat (first | exact HI3.out | refine IsS72.far ?_ N23.out _)) (by with_reducible repeat (first | exact HB3.out | refine below_set ?_ GE3.out)) H2.out).mono ?_; rintro e w4 ⟨rfl, hi, hb, hk⟩; have HI4 := Aside0.mk hi; have HB4 := Aside0.mk hb; have BK1_4 := Aside0.mk (hk.blk (g' := g1) (o := .cells #[.int .i64 0, .int .i64 0, .int .i64 0, .int .i64 0, .slice none 0 0, .slice none 0 0] 29 (0, 0)) (kX BK1_3.out) N12.out (by simp)); have BK3_4 := Aside0.mk (hk.blk (g' := g3) (o := .cells #[.int .i64 j, .int .i64 0, .int .i64 0, .int .i64 0, .slice none 0 0, .slice none 0 0] 29 (0, 0)) (kX BK3_3.out) N23.out.symm (by simp)); obtain ⟨A2, c2, hbk, -, -⟩ := HI4.out; obtain ⟨ya0, yb0, ya1, yb1, ya2, yb2⟩ := bk3 hbk; clear hx3 hz0 fz0 hz1 fz1 hz2 fz2 hz3 fz3 hz4 fz4 hz5 fz5 za0 zb0 za1 zb1 za2 zb2 za3 zb3 za4 zb4 za5 zb5; obtain ⟨hz0, fz0, hz1, fz1, hz2, fz2, hz3, fz3, hz4, fz4, hz5, fz5⟩ := bk6 BK1_4.out; obtain ⟨za0, zb0, za1, zb1, za2, zb2, za3, zb3, za4, zb4, za5, zb5⟩ := bk6 BK3_4.out; clear hi hb hk hbk))
    refine bodyPost_ret (results_ct rfl _ _ g1 29 #[.int .i64 0, .int .i64 0, .int .i64 0, .int .i64 0, .slice none 0 0, .slice none 0 0] (0, 0) _ rfl (kX BK1_4.out) Try.underlying29 rfl (by kernel_rfl)) rfl ?_
    exact ⟨_, _, rfl, Kd.R_nil _ _ _ _ _, Kd.R_nil _ _ _ _ _, by with_reducible repeat (first | exact HB4.out | refine below_set ?_ GE1.out | refine below_set ?_ GE2.out | refine below_set ?_ GE3.out | apply pw_below_drewN)⟩
  · go_enter Try.func18, Try.ntmps18
    go_wp2_with (first | ((with_reducible refine gate_dst (N := 2) rfl ?_); refine box_event ?hg (N := 2) ?hd (cs := #[.int .i64 0, .int .i64 0, .int .i64 0, .int .i64 0, .slice none 0 0, .slice none 0 0]) (t := 29) ?hr ?_; (case hd => rfl); (case hg => rfl); (case hr => first | (go_simp; done) | (go_simp; rfl)); intro g1 hg1 w1 hbox1 hb1; have HB1 := Aside0.mk hb1; have BK1_1 := Aside0.mk hbox1; have GE1 := Aside0.mk (show w.heap.size ≤ g1 by omega); obtain ⟨hz0, fz0, hz1, fz1, hz2, fz2, hz3, fz3, hz4, fz4, hz5, fz5⟩ := bk6 hbox1; (try have hx1 := (pw_cell_below hb1 HX.out)); clear hg1 hbox1 hb1) | (go_at_call 50; refine (impl_isKind.calls j true _ H1.out).mono ?_; rintro e w' ⟨rfl, ⟨nd, rfl⟩⟩) | ((with_reducible refine gate_dst (N := 27) rfl ?_); refine box_event ?hg (N := 27) ?hd (cs := #[.slice (some ad) l0.length c0, .int .i64 1, .bool false]) (t := 72) ?hr ?_; (case hd => rfl); (case hg => rfl); (case hr => first | (go_simp; done) | (go_simp; rfl)); intro g2 hg2 w2 hbox2 hb2; have HB2 := Aside0.mk (below_step (pw_below_drewN HB1.out nd) hb2); have BK1_2 := Aside0.mk (blk_below (blk_drewN BK1_1.out nd) hb2); have GE2 := Aside0.mk (show w.heap.size ≤ g2 by rw [hg2]; exact below_size (pw_below_drewN HB1.out nd)); have N12 := Aside0.mk (show g1 ≠ g2 by rw [hg2]; exact Nat.ne_of_lt (blk_lt (blk_drewN BK1_1.out nd))); have HI2 := Aside0.mk (show IsS72 w w2 g2 l0 1 false from ⟨some ad, c0, hbox2, ⟨GE2.out, HC.out⟩, HR.out⟩); clear hx1; have hx2 := pw_cell_below HB2.out HX.out; clear hg2 hbox2 hb2) | ((with_reducible refine gate_dst (N := 6) rfl ?_); refine box_event ?hg (N := 6) ?hd (cs := #[.int .i64 0, .int .i64 0, .int .i64 0, .int .i64 0, .slice none 0 0, .slice none 0 0]) (t := 29) ?hr ?_; (case hd => rfl); (case hg => rfl); (case hr => first | (go_simp; done) | (go_simp; rfl)); intro g3 hg3 w3 hbox3 hb3; have HB3 := Aside0.mk (below_step HB2.out hb3); have GE3 := Aside0.mk (show w.heap.size ≤ g3 by rw [hg3]; exact below_size HB2.out); have BK1_3 := Aside0.mk (blk_below BK1_2.out hb3); have BK3_3 := Aside0.mk hbox3; have N13 := Aside0.mk (show g1 ≠ g3 by rw [hg3]; exact Nat.ne_of_lt (blk_lt BK1_2.out)); have HI3 := Aside0.mk (HI2.out.below hb3); have N23 := Aside0.mk (show g2 ≠ g3 by rw [hg3]; exact Nat.ne_of_lt HI2.out.lt); have N32 := Aside0.mk N23.out.symm; obtain ⟨za0, zb0, za1, zb1, za2, zb2, za3, zb3, za4, zb4, za5, zb5⟩ := bk6 hbox3; clear hx2 hz0 fz0 hz1 fz1 hz2 fz2 hz3 fz3 hz4 fz4 hz5 fz5; have hx3 := pw_cell_below HB3.out HX.out; obtain ⟨hz0, fz0, hz1, fz1, hz2, fz2, hz3, fz3, hz4, fz4, hz5, fz5⟩ := bk6 BK1_3.out; have n13 := N13.out; have n31 := n13.symm; have n23 := N23.out; have n32 := n23.symm; have n12 := N12.out; have n21 := n12.symm; have hxb := Aside0.mk (World.block_lt_of_cell? w _ HX.out); have na3 : ad.block ≠ g3 := Nat.ne_of_lt (Nat.lt_of_lt_of_le hxb.out GE3.out); have hx3a := (cell_far (p := ⟨g3, 0, none⟩) na3 (.int .i64 j)).trans hx3; clear hx3; have hx3b := (cell_far (p := ⟨g3, 1, none⟩) na3 (.int .i64 0)).trans hx3a; clear hx3a; have hx3c := (cell_far (p := ⟨g3, 2, none⟩) na3 (.int .i64 0)).trans hx3b; clear hx3b; have hx3d := (cell_far (p := ⟨g3, 3, none⟩) na3 (.int .i64 0)).trans hx3c; clear hx3c; have hx3e := (cell_far (p := ⟨g3, 4, none⟩) na3 (.slice none 0 0)).trans hx3d; clear hx3d; have hx3f := (cell_far (p := ⟨g3, 5, none⟩) na3 (.slice none 0 0)).trans hx3e; clear hx3e; have hx3 := hx3f; clear hx3f na3 hxb; clear hg3 hbox3 hb3) | (go_at_call 51; refine (impl_taker_byte.calls g2 l0 1 false f_ p_ _ w _ (by with_reducible repeat (first | exact HI3.out | refine IsS72.far ?_ N23.out _)) (by with_reducible repeat (first | exact HB3.out | refine below_set ?_ GE3.out)) H2.out).mono ?_; rintro e w4 ⟨rfl, hi, hb, hk⟩; have HI4 := Aside0.mk hi; have HB4 := Aside0.mk hb; have BK1_4 := Aside0.mk (hk.blk (g' := g1) (o := .cells #[.int .i64 0, .int .i64 0, .int .i64 0, .int .i64 0, .slice none 0 0, .slice none 0 0] 29 (0, 0)) (kX BK1_3.out) N12.out (by simp)); have BK3_4 := Aside0.mk (hk.blk (g' := g3) (o := .cells #[.int .i64 j, .int .i64 0, .int .i64 0, .int .i64 0, .slice none 0 0, .slice none 0 0] 29 (0, 0)) (kX BK3_3.out) N23.out.symm (by simp)); obtain ⟨A2, c2, hbk, -, -⟩ := HI4.out; obtain ⟨ya0, yb0, ya1, yb1, ya2, yb2⟩ := bk3 hbk; clear hx3 hz0 fz0 hz1 fz1 hz2 fz2 hz3 fz3 hz4 fz4 hz5 fz5 za0 zb0 za1 zb1 za2 zb2 za3 zb3 za4 zb4 za5 zb5; obtain ⟨hz0, fz0, hz1, fz1, hz2, fz2, hz3, fz3, hz4, fz4, hz5, fz5⟩ := bk6 BK1_4.out; obtain ⟨za0, zb0, za1, zb1, za2, zb2, za3, zb3, za4, zb4, za5, zb5⟩ := bk6 BK3_4.out; clear hi hb hk hbk))
    refine bodyPost_ret (results_ct rfl _ _ g1 29 #[.int .i64 0, .int .i64 0, .int .i64 0, .int .i64 0, .slice none 0 0, .slice none 0 0] (0, 0) _ rfl (kX BK1_4.out) Try.underlying29 rfl (by kernel_rfl)) rfl ?_
    exact ⟨_, _, rfl, Kd.R_nil _ _ _ _ _, Kd.R_nil _ _ _ _ _, by with_reducible repeat (first | exact HB4.out | refine below_set ?_ GE1.out | refine below_set ?_ GE2.out | refine below_set ?_ GE3.out | apply pw_below_drewN)⟩

set_option maxHeartbeats 8000000 in
set_option maxRecDepth 100000 in
theorem getResp_fault_at (k : Nat) (A0 : Option Addr) (c0 : Nat) (l0 : List Int) {f_ p_ : Int} {b_ : Bool} (w : World) (hr0 : Kd.C (Kd.int .u8) w A0 l0.length l0) (hc0 : l0.length ≤ c0) (c0e : l0.length ≠ 0) (h1 : impl_isKind.f (wrap64 (Go.bits .and .u8 (rd l0 0) 127)) = some true) (hge : 128 ≤ rd l0 0) (h2 : impl_taker_byte.f l0 1 false = some (f_, p_, b_)) (hb_ : b_ = false) (hf : (f_ == 0) = false) (hp : p_ ≠ (l0.length : Int)) :
    Calls Try.prog 18 #[.slice A0 l0.length c0] w (GetRespPost w 0 0 0 0 [] [] 3) := by
  have HR := Aside0.mk hr0
  have HC := Aside0.mk hc0
  clear hr0 hc0
  have cz : ((l0.length : Int) == 0) = false := by simp [c0e]
  have p1 : 0 ≤ (0 : Int) := by omega
  have q1 : (0 : Int) < (l0.length : Int) := by omega
  obtain ⟨ad, e0, hx0⟩ := Kd.at_int HR.out 0 p1 q1
  cases e0
  rw [show ad.add (Int.toNat 0) = ad from by cases ad; rfl] at hx0
  have HX := Aside0.mk hx0
  obtain ⟨m, hm⟩ : ∃ m, Go.bits .and .u8 (rd l0 0) 127 = m := ⟨_, rfl⟩
  obtain ⟨j, hj⟩ : ∃ j, wrap64 m = j := ⟨_, rfl⟩
  have hjw : IntKind.i64.wrap m = j := (i64_w _).trans hj
  rw [hm, hj] at h1
  have H1 := Aside0.mk h1
  have q2 : 0 < l0.length := by omega
  clear h1 c0e
  replace p1 := eq_true p1
  replace q1 := eq_true q1
  have cge : decide (128 ≤ rd l0 0) = true := decide_eq_true hge
  have H2 := Aside0.mk h2
  clear h2 hge
  subst hb_
  have c1 : (p_ == (l0.length : Int)) = false := by simp [hp]
  have c2 : (p_ != (l0.length : Int)) = true := by simp [hp]
  clear hp
  go_enter Try.func18, Try.ntmps18
  go_wp2_with (first | ((with_reducible refine gate_dst (N := 2) rfl ?_); refine box_event ?hg (N := 2) ?hd (cs := #[.int .i64 0, .int .i64 0, .int .i64 0, .int .i64 0, .slice none 0 0, .slice none 0 0]) (t := 29) ?hr ?_; (case hd => rfl); (case hg => rfl); (case hr => first | (go_simp; done) | (go_simp; rfl)); intro g1 hg1 w1 hbox1 hb1; have HB1 := Aside0.mk hb1; have BK1_1 := Aside0.mk hbox1; have GE1 := Aside0.mk (show w.heap.size ≤ g1 by omega); obtain ⟨hz0, fz0, hz1, fz1, hz2, fz2, hz3, fz3, hz4, fz4, hz5, fz5⟩ := bk6 hbox1; (try have hx1 := (pw_cell_below hb1 HX.out)); clear hg1 hbox1 hb1) | (go_at_call 50; refine (impl_isKind.calls j true _ H1.out).mono ?_; rintro e w' ⟨rfl, ⟨nd, rfl⟩⟩) | ((with_reducible refine gate_dst (N := 27) rfl ?_); refine box_event ?hg (N := 27) ?hd (cs := #[.slice (some ad) l0.length c0, .int .i64 1, .bool false]) (t := 72) ?hr ?_; (case hd => rfl); (case hg => rfl); (case hr => first | (go_simp; done) | (go_simp; rfl)); intro g2 hg2 w2 hbox2 hb2; have HB2 := Aside0.mk (below_step (pw_below_drewN HB1.out nd) hb2); have BK1_2 := Aside0.mk (blk_below (blk_drewN BK1_1.out nd) hb2); have GE2 := Aside0.mk (show w.heap.size ≤ g2 by rw [hg2]; exact below_size (pw_below_drewN HB1.out nd)); have N12 := Aside0.mk (show g1 ≠ g2 by rw [hg2]; exact Nat.ne_of_lt (blk_lt (blk_drewN BK1_1.out nd))); have HI2 := Aside0.mk (show IsS72 w w2 g2 l0 1 false from ⟨some ad, c0, hbox2, ⟨GE2.out, HC.out⟩, HR.out⟩); clear hx1; have hx2 := pw_cell_below HB2.out HX.out; clear hg2 hbox2 hb2) | ((with_reducible refine gate_dst (N := 6) rfl ?_); refine box_event ?hg (N := 6) ?hd (cs := #[.int .i64 0, .int .i64 0, .int .i64 0, .int .i64 0, .slice none 0 0, .slice none 0 0]) (t := 29) ?hr ?_; (case hd => rfl); (case hg => rfl); (case hr => first | (go_simp; done) | (go_simp; rfl)); intro g3 hg3 w3 hbox3 hb3; have HB3 := Aside0.mk (below_step HB2.out hb3); have GE3 := Aside0.mk (show w.heap.size ≤ g3 by rw [hg3]; exact below_size HB2.out); have BK1_3 := Aside0.mk (blk_below BK1_2.out hb3); have BK3_3 := Aside0.mk hbox3; have N13 := Aside0.mk (show g1 ≠ g3 by rw [hg3]; exact Nat.ne_of_lt (blk_lt BK1_2.out)); have HI3 := Aside0.mk (HI2.out.below hb3); have N23 := Aside0.mk (show g2 ≠ g3 by rw [hg3]; exact Nat.ne_of_lt HI2.out.lt); have N32 := Aside0.mk N23.out.symm; obtain ⟨za0, zb0, za1, zb1, za2, zb2, za3, zb3, za4, zb4, za5, zb5⟩ := bk6 hbox3; clear hx2 hz0 fz0 hz1 fz1 hz2 fz2 hz3 fz3 hz4 fz4 hz5 fz5; have hx3 := pw_cell_below HB3.out HX.out; obtain ⟨hz0, fz0, hz1, fz1, hz2, fz2, hz3, fz3, hz4, fz4, hz5, fz5⟩ := bk6 BK1_3.out; have n13 := N13.out; have n31 := n13.symm; have n23 := N23.out; have n32 := n23.symm; have n12 := N12.out; have n21 := n12.symm; have hxb := Aside0.mk (World.block_lt_of_cell? w _ HX.out); have na3 : ad.block ≠ g3 := Nat.ne_of_lt (Nat.lt_of_lt_of_le hxb.out GE3.out); have hx3a := (cell_far (p := ⟨g3, 0, none⟩) na3 (.int .i64 j)).trans hx3; clear hx3; have hx3b := (cell_far (p := ⟨g3, 1, none⟩) na3 (.int .i64 0)).trans hx3a; clear hx3a; have hx3c := (cell_far (p := ⟨g3, 2, none⟩) na3 (.int .i64 0)).trans hx3b; clear hx3b; have hx3d := (cell_far (p := ⟨g3, 3, none⟩) na3 (.int .i64 0)).trans hx3c; clear hx3c; have hx3e := (cell_far (p := ⟨g3, 4, none⟩) na3 (.slice none 0 0)).trans hx3d; clear hx3d; have hx3f := (cell_far (p := ⟨g3, 5, none⟩) na3 (.slice none 0 0)).trans hx3e; clear hx3e; have hx3 := hx3f; clear hx3f na3 hxb; clear hg3 hbox3 hb3) | (go_at_call 51; refine (impl_taker_byte.calls g2 l0 1 false f_ p_ _ w _ (by with_reducible repeat (first | exact HI3.out | refine IsS72.far ?_ N23.out _)) (by with_reducible repeat (first | exact HB3.out | refine below_set ?_ GE3.out)) H2.out).mono ?_; rintro e w4 ⟨rfl, hi, hb, hk⟩; have HI4 := Aside0.mk hi; have HB4 := Aside0.mk hb; have BK1_4 := Aside0.mk (hk.blk (g' := g1) (o := .cells #[.int .i64 0, .int .i64 0, .int .i64 0, .int .i64 0, .slice none 0 0, .slice none 0 0] 29 (0, 0)) (kX BK1_3.out) N12.out (by simp)); have BK3_4 := Aside0.mk (hk.blk (g' := g3) (o := .cells #[.int .i64 j, .int .i64 0, .int .i64 0, .int .i64 0, .slice none 0 0, .slice none 0 0] 29 (0, 0)) (kX BK3_3.out) N23.out.symm (by simp)); obtain ⟨A2, c2, hbk, -, -⟩ := HI4.out; obtain ⟨ya0, yb0, ya1, yb1, ya2, yb2⟩ := bk3 hbk; clear hx3 hz0 fz0 hz1 fz1 hz2 fz2 hz3 fz3 hz4 fz4 hz5 fz5 za0 zb0 za1 zb1 za2 zb2 za3 zb3 za4 zb4 za5 zb5; obtain ⟨hz0, fz0, hz1, fz1, hz2, fz2, hz3, fz3, hz4, fz4, hz5, fz5⟩ := bk6 BK1_4.out; obtain ⟨za0, zb0, za1, zb1, za2, zb2, za3, zb3, za4, zb4, za5, zb5⟩ := bk6 BK3_4.out; clear hi hb hk hbk))
  refine bodyPost_ret (results_ct rfl _ _ g1 29 #[.int .i64 0, .int .i64 0, .int .i64 0, .int .i64 0, .slice none 0 0, .slice none 0 0] (0, 0) _ rfl (kX BK1_4.out) Try.underlying29 rfl (by kernel_rfl)) rfl ?_
  exact ⟨_, _, rfl, Kd.R_nil _ _ _ _ _, Kd.R_nil _ _ _ _ _, by with_reducible repeat (first | exact HB4.out | refine below_set ?_ GE1.out | refine below_set ?_ GE2.out | refine below_set ?_ GE3.out | apply pw_below_drewN)⟩

set_option maxHeartbeats 8000000 in
set_option maxRecDepth 100000 in
theorem getResp_fault_false (k : Nat) (A0 : Option Addr) (c0 : Nat) (l0 : List Int) {f_ p_ : Int} {b_ : Bool} (w : World) (hr0 : Kd.C (Kd.int .u8) w A0 l0.length l0) (hc0 : l0.length ≤ c0) (c0e : l0.length ≠ 0) (h1 : impl_isKind.f (wrap64 (Go.bits .and .u8 (rd l0 0) 127)) = some true) (hge : 128 ≤ rd l0 0) (h2 : impl_taker_byte.f l0 1 false = some (f_, p_, b_)) (hb_ : b_ = false) (hf : (f_ == 0) = false) (hp : p_ = (l0.length : Int)) (h3 : impl_RespOk.f k (wrap64 (Go.bits .and .u8 (rd l0 0) 127)) f_ 0 0 [] [] = some false) :
    Calls Try.prog 18 #[.slice A0 l0.length c0] w (GetRespPost w 0 0 0 0 [] [] 3) := by
  have HR := Aside0.mk hr0
  have HC := Aside0.mk hc0
  clear hr0 hc0
  have cz : ((l0.length : Int) == 0) = false := by simp [c0e]
  have p1 : 0 ≤ (0 : Int) := by omega
  have q1 : (0 : Int) < (l0.length : Int) := by omega
  obtain ⟨ad, e0, hx0⟩ := Kd.at_int HR.out 0 p1 q1
  cases e0
  rw [show ad.add (Int.toNat 0) = ad from by cases ad; rfl] at hx0
  have HX := Aside0.mk hx0
  obtain ⟨m, hm⟩ : ∃ m, Go.bits .and .u8 (rd l0 0) 127 = m := ⟨_, rfl⟩
  obtain ⟨j, hj⟩ : ∃ j, wrap64 m = j := ⟨_, rfl⟩
  have hjw : IntKind.i64.wrap m = j := (i64_w _).trans hj
  rw [hm, hj] at h1
  have H1 := Aside0.mk h1
  have q2 : 0 < l0.length := by omega
  clear h1 c0e
  replace p1 := eq_true p1
  replace q1 := eq_true q1
  rw [hm, hj] at h3
  have cge : decide (128 ≤ rd l0 0) = true := decide_eq_true hge
  have H2 := Aside0.mk h2
  clear h2 hge
  have H3 := Aside0.mk h3
  clear h3
  subst hb_
  have c1 : (p_ == (l0.length : Int)) = true := by simp [hp]
  have c2 : (p_ != (l0.length : Int)) = false := by simp [hp]
  clear hp
  go_enter Try.func18, Try.ntmps18
  go_wp2_with (first | ((with_reducible refine gate_dst (N := 2) rfl ?_); refine box_event ?hg (N := 2) ?hd (cs := #[.int .i64 0, .int .i64 0, .int .i64 0, .int .i64 0, .slice none 0 0, .slice none 0 0]) (t := 29) ?hr ?_; (case hd => rfl); (case hg => rfl); (case hr => first | (go_simp; done) | (go_simp; rfl)); intro g1 hg1 w1 hbox1 hb1; have HB1 := Aside0.mk hb1; have BK1_1 := Aside0.mk hbox1; have GE1 := Aside0.mk (show w.heap.size ≤ g1 by omega); obtain ⟨hz0, fz0, hz1, fz1, hz2, fz2, hz3, fz3, hz4, fz4, hz5, fz5⟩ := bk6 hbox1; (try have hx1 := (pw_cell_below hb1 HX.out)); clear hg1 hbox1 hb1) | (go_at_call 50; refine (impl_isKind.calls j true _ H1.out).mono ?_; rintro e w' ⟨rfl, ⟨nd, rfl⟩⟩) | ((with_reducible refine gate_dst (N := 27) rfl ?_); refine box_event ?hg (N := 27) ?hd (cs := #[.slice (some ad) l0.length c0, .int .i64 1, .bool false]) (t := 72) ?hr ?_; (case hd => rfl); (case hg => rfl); (case hr => first | (go_simp; done) | (go_simp; rfl)); intro g2 hg2 w2 hbox2 hb2; have HB2 := Aside0.mk (below_step (pw_below_drewN HB1.out nd) hb2); have BK1_2 := Aside0.mk (blk_below (blk_drewN BK1_1.out nd) hb2); have GE2 := Aside0.mk (show w.heap.size ≤ g2 by rw [hg2]; exact below_size (pw_below_drewN HB1.out nd)); have N12 := Aside0.mk (show g1 ≠ g2 by rw [hg2]; exact Nat.ne_of_lt (blk_lt (blk_drewN BK1_1.out nd))); have HI2 := Aside0.mk (show IsS72 w w2 g2 l0 1 false from ⟨some ad, c0, hbox2, ⟨GE2.out, HC.out⟩, HR.out⟩); clear hx1; have hx2 := pw_cell_below HB2.out HX.out; clear hg2 hbox2 hb2) | ((with_reducible refine gate_dst (N := 6) rfl ?_); refine box_event ?hg (N := 6) ?hd (cs := #[.int .i64 0, .int .i64 0, .int .i64 0, .int .i64 0, .slice none 0 0, .slice none 0 0]) (t := 29) ?hr ?_; (case hd => rfl); (case hg => rfl); (case hr => first | (go_simp; done) | (go_simp; rfl)); intro g3 hg3 w3 hbox3 hb3; have HB3 := Aside0.mk (below_step HB2.out hb3); have GE3 := Aside0.mk (show w.heap.size ≤ g3 by rw [hg3]; exact below_size HB2.out); have BK1_3 := Aside0.mk (blk_below BK1_2.out hb3); have BK3_3 := Aside0.mk hbox3; have N13 := Aside0.mk (show g1 ≠ g3 by rw [hg3]; exact Nat.ne_of_lt (blk_lt BK1_2.out)); have HI3 := Aside0.mk (HI2.out.below hb3); have N23 := Aside0.mk (show g2 ≠ g3 by rw [hg3]; exact Nat.ne_of_lt HI2.out.lt); have N32 := Aside0.mk N23.out.symm; obtain ⟨za0, zb0, za1, zb1, za2, zb2, za3, zb3, za4, zb4, za5, zb5⟩ := bk6 hbox3; clear hx2 hz0 fz0 hz1 fz1 hz2 fz2 hz3 fz3 hz4 fz4 hz5 fz5; have hx3 := pw_cell_below HB3.out HX.out; obtain ⟨hz0, fz0, hz1, fz1, hz2, fz2, hz3, fz3, hz4, fz4, hz5, fz5⟩ := bk6 BK1_3.out; have n13 := N13.out; have n31 := n13.symm; have n23 := N23.out; have n32 := n23.symm; have n12 := N12.out; have n21 := n12.symm; have hxb := Aside0.mk (World.block_lt_of_cell? w _ HX.out); have na3 : ad.block ≠ g3 := Nat.ne_of_lt (Nat.lt_of_lt_of_le hxb.out GE3.out); have hx3a := (cell_far (p := ⟨g3, 0, none⟩) na3 (.int .i64 j)).trans hx3; clear hx3; have hx3b := (cell_far (p := ⟨g3, 1, none⟩) na3 (.int .i64 0)).trans hx3a; clear hx3a; have hx3c := (cell_far (p := ⟨g3, 2, none⟩) na3 (.int .i64 0)).trans hx3b; clear hx3b; have hx3d := (cell_far (p := ⟨g3, 3, none⟩) na3 (.int .i64 0)).trans hx3c; clear hx3c; have hx3e := (cell_far (p := ⟨g3, 4, none⟩) na3 (.slice none 0 0)).trans hx3d; clear hx3d; have hx3f := (cell_far (p := ⟨g3, 5, none⟩) na3 (.slice none 0 0)).trans hx3e; clear hx3e; have hx3 := hx3f; clear hx3f na3 hxb; clear hg3 hbox3 hb3) | (go_at_call 51; refine (impl_taker_byte.calls g2 l0 1 false f_ p_ _ w _ (by with_reducible repeat (first | exact HI3.out | refine IsS72.far ?_ N23.out _)) (by with_reducible repeat (first | exact HB3.out | refine below_set ?_ GE3.out)) H2.out).mono ?_; rintro e w4 ⟨rfl, hi, hb, hk⟩; have HI4 := Aside0.mk hi; have HB4 := Aside0.mk hb; have BK1_4 := Aside0.mk (hk.blk (g' := g1) (o := .cells #[.int .i64 0, .int .i64 0, .int .i64 0, .int .i64 0, .slice none 0 0, .slice none 0 0] 29 (0, 0)) (kX BK1_3.out) N12.out (by simp)); have BK3_4 := Aside0.mk (hk.blk (g' := g3) (o := .cells #[.int .i64 j, .int .i64 0, .int .i64 0, .int .i64 0, .slice none 0 0, .slice none 0 0] 29 (0, 0)) (kX BK3_3.out) N23.out.symm (by simp)); obtain ⟨A2, c2, hbk, -, -⟩ := HI4.out; obtain ⟨ya0, yb0, ya1, yb1, ya2, yb2⟩ := bk3 hbk; clear hx3 hz0 fz0 hz1 fz1 hz2 fz2 hz3 fz3 hz4 fz4 hz5 fz5 za0 zb0 za1 zb1 za2 zb2 za3 zb3 za4 zb4 za5 zb5; obtain ⟨hz0, fz0, hz1, fz1, hz2, fz2, hz3, fz3, hz4, fz4, hz5, fz5⟩ := bk6 BK1_4.out; obtain ⟨za0, zb0, za1, zb1, za2, zb2, za3, zb3, za4, zb4, za5, zb5⟩ := bk6 BK3_4.out; clear hi hb hk hbk) | (go_at_call 23; refine (impl_RespOk.calls k j f_ 0 0 none 0 [] none 0 [] false _ ⟨rfl, by decide, fun h_ => absurd h_ (by decide)⟩ (Nat.le_refl _) ⟨rfl, by decide, fun h_ => absurd h_ (by decide)⟩ (Nat.le_refl _) H3.out).mono ?_; rintro e w5 ⟨rfl, hb⟩; have HB5 := Aside0.mk (below_step (by with_reducible repeat (first | exact HB4.out | refine below_set ?_ GE1.out | refine below_set ?_ GE2.out | refine below_set ?_ GE3.out)) hb); have BK1_5 := Aside0.mk (blk_below (g := g1) (o := .cells #[.int .i64 0, .int .i64 0, .int .i64 0, .int .i64 0, .slice none 0 0, .slice none 0 0] 29 (0, 0)) (kX BK1_4.out) hb); have BK3_5 := Aside0.mk (blk_below (g := g3) (o := .cells #[.int .i64 j, .int .i64 f_, .int .i64 0, .int .i64 0, .slice none 0 0, .slice none 0 0] 29 (0, 0)) (kX BK3_4.out) hb); clear ya0 yb0 ya1 yb1 ya2 yb2 hz0 fz0 hz1 fz1 hz2 fz2 hz3 fz3 hz4 fz4 hz5 fz5 za0 zb0 za1 zb1 za2 zb2 za3 zb3 za4 zb4 za5 zb5; obtain ⟨hz0, fz0, hz1, fz1, hz2, fz2, hz3, fz3, hz4, fz4, hz5, fz5⟩ := bk6 BK1_5.out; obtain ⟨za0, zb0, za1, zb1, za2, zb2, za3, zb3, za4, zb4, za5, zb5⟩ := bk6 BK3_5.out; clear hb))
  refine bodyPost_ret (results_ct rfl _ _ g1 29 #[.int .i64 0, .int .i64 0, .int .i64 0, .int .i64 0, .slice none 0 0, .slice none 0 0] (0, 0) _ rfl (kX BK1_5.out) Try.underlying29 rfl (by kernel_rfl)) rfl ?_
  exact ⟨_, _, rfl, Kd.R_nil _ _ _ _ _, Kd.R_nil _ _ _ _ _, by with_reducible repeat (first | exact HB5.out | refine below_set ?_ GE1.out | refine below_set ?_ GE2.out | refine below_set ?_ GE3.out | apply pw_below_drewN)⟩

set_option maxHeartbeats 8000000 in
set_option maxRecDepth 100000 in
theorem getResp_fault_true (k : Nat) (A0 : Option Addr) (c0 : Nat) (l0 : List Int) {f_ p_ : Int} {b_ : Bool} (w : World) (hr0 : Kd.C (Kd.int .u8) w A0 l0.length l0) (hc0 : l0.length ≤ c0) (c0e : l0.length ≠ 0) (h1 : impl_isKind.f (wrap64 (Go.bits .and .u8 (rd l0 0) 127)) = some true) (hge : 128 ≤ rd l0 0) (h2 : impl_taker_byte.f l0 1 false = some (f_, p_, b_)) (hb_ : b_ = false) (hf : (f_ == 0) = false) (hp : p_ = (l0.length : Int)) (h3 : impl_RespOk.f k (wrap64 (Go.bits .and .u8 (rd l0 0) 127)) f_ 0 0 [] [] = some true) :
    Calls Try.prog 18 #[.slice A0 l0.length c0] w (GetRespPost w (wrap64 (Go.bits .and .u8 (rd l0 0) 127)) f_ 0 0 [] [] 0) := by
  have HR := Aside0.mk hr0
  have HC := Aside0.mk hc0
  clear hr0 hc0
  have cz : ((l0.length : Int) == 0) = false := by simp [c0e]
  have p1 : 0 ≤ (0 : Int) := by omega
  have q1 : (0 : Int) < (l0.length : Int) := by omega
  obtain ⟨ad, e0, hx0⟩ := Kd.at_int HR.out 0 p1 q1
  cases e0
  rw [show ad.add (Int.toNat 0) = ad from by cases ad; rfl] at hx0
  have HX := Aside0.mk hx0
  obtain ⟨m, hm⟩ : ∃ m, Go.bits .and .u8 (rd l0 0) 127 = m := ⟨_, rfl⟩
  obtain ⟨j, hj⟩ : ∃ j, wrap64 m = j := ⟨_, rfl⟩
  have hjw : IntKind.i64.wrap m = j := (i64_w _).trans hj
  rw [hm, hj] at h1
  have H1 := Aside0.mk h1
  have q2 : 0 < l0.length := by omega
  clear h1 c0e
  replace p1 := eq_true p1
  replace q1 := eq_true q1
  rw [hm, hj] at h3 ⊢
  have cge : decide (128 ≤ rd l0 0) = true := decide_eq_true hge
  have H2 := Aside0.mk h2
  clear h2 hge
  have H3 := Aside0.mk h3
  clear h3
  subst hb_
  have c1 : (p_ == (l0.length : Int)) = true := by simp [hp]
  have c2 : (p_ != (l0.length : Int)) = false := by simp [hp]
  clear hp
  go_enter Try.func18, Try.ntmps18
  go_wp2_with (first | ((with_reducible refine gate_dst (N := 2) rfl ?_); refine box_event ?hg (N := 2) ?hd (cs := #[.int .i64 0, .int .i64 0, .int .i64 0, .int .i64 0, .slice none 0 0, .slice none 0 0]) (t := 29) ?hr ?_; (case hd => rfl); (case hg => rfl); (case hr => first | (go_simp; done) | (go_simp; rfl)); intro g1 hg1 w1 hbox1 hb1; have HB1 := Aside0.mk hb1; have BK1_1 := Aside0.mk hbox1; have GE1 := Aside0.mk (show w.heap.size ≤ g1 by omega); obtain ⟨hz0, fz0, hz1, fz1, hz2, fz2, hz3, fz3, hz4, fz4, hz5, fz5⟩ := bk6 hbox1; (try have hx1 := (pw_cell_below hb1 HX.out)); clear hg1 hbox1 hb1) | (go_at_call 50; refine (impl_isKind.calls j true _ H1.out).mono ?_; rintro e w' ⟨rfl, ⟨nd, rfl⟩⟩) | ((with_reducible refine gate_dst (N := 27) rfl ?_); refine box_event ?hg (N := 27) ?hd (cs := #[.slice (some ad) l0.length c0, .int .i64 1, .bool false]) (t := 72) ?hr ?_; (case hd => rfl); (case hg => rfl); (case hr => first | (go_simp; done) | (go_simp; rfl)); intro g2 hg2 w2 hbox2 hb2; have HB2 := Aside0.mk (below_step (pw_below_drewN HB1.out nd) hb2); have BK1_2 := Aside0.mk (blk_below (blk_drewN BK1_1.out nd) hb2); have GE2 := Aside0.mk (show w.heap.size ≤ g2 by rw [hg2]; exact below_size (pw_below_drewN HB1.out nd)); have N12 := Aside0.mk (show g1 ≠ g2 by rw [hg2]; exact Nat.ne_of_lt (blk_lt (blk_drewN BK1_1.out nd))); have HI2 := Aside0.mk (show IsS72 w w2 g2 l0 1 false from ⟨some ad, c0, hbox2, ⟨GE2.out, HC.out⟩, HR.out⟩); clear hx1; have hx2 := pw_cell_below HB2.out HX.out; clear hg2 hbox2 hb2) | ((with_reducible refine gate_dst (N := 6) rfl ?_); refine box_event ?hg (N := 6) ?hd (cs := #[.int .i64 0, .int .i64 0, .int .i64 0, .int .i64 0, .slice none 0 0, .slice none 0 0]) (t := 29) ?hr ?_; (case hd => rfl); (case hg => rfl); (case hr => first | (go_simp; done) | (go_simp; rfl)); intro g3 hg3 w3 hbox3 hb3; have HB3 := Aside0.mk (below_step HB2.out hb3); have GE3 := Aside0.mk (show w.heap.size ≤ g3 by rw [hg3]; exact below_size HB2.out); have BK1_3 := Aside0.mk (blk_below BK1_2.out hb3); have BK3_3 := Aside0.mk hbox3; have N13 := Aside0.mk (show g1 ≠ g3 by rw [hg3]; exact Nat.ne_of_lt (blk_lt BK1_2.out)); have HI3 := Aside0.mk (HI2.out.below hb3); have N23 := Aside0.mk (show g2 ≠ g3 by rw [hg3]; exact Nat.ne_of_lt HI2.out.lt); have N32 := Aside0.mk N23.out.symm; obtain ⟨za0, zb0, za1, zb1, za2, zb2, za3, zb3, za4, zb4, za5, zb5⟩ := bk6 hbox3; clear hx2 hz0 fz0 hz1 fz1 hz2 fz2 hz3 fz3 hz4 fz4 hz5 fz5; have hx3 := pw_cell_below HB3.out HX.out; obtain ⟨hz0, fz0, hz1, fz1, hz2, fz2, hz3, fz3, hz4, fz4, hz5, fz5⟩ := bk6 BK1_3.out; have n13 := N13.out; have n31 := n13.symm; have n23 := N23.out; have n32 := n23.symm; have n12 := N12.out; have n21 := n12.symm; have hxb := Aside0.mk (World.block_lt_of_cell? w _ HX.out); have na3 : ad.block ≠ g3 := Nat.ne_of_lt (Nat.lt_of_lt_of_le hxb.out GE3.out); have hx3a := (cell_far (p := ⟨g3, 0, none⟩) na3 (.int .i64 j)).trans hx3; clear hx3; have hx3b := (cell_far (p := ⟨g3, 1, none⟩) na3 (.int .i64 0)).trans hx3a; clear hx3a; have hx3c := (cell_far (p := ⟨g3, 2, none⟩) na3 (.int .i64 0)).trans hx3b; clear hx3b; have hx3d := (cell_far (p := ⟨g3, 3, none⟩) na3 (.int .i64 0)).trans hx3c; clear hx3c; have hx3e := (cell_far (p := ⟨g3, 4, none⟩) na3 (.slice none 0 0)).trans hx3d; clear hx3d; have hx3f := (cell_far (p := ⟨g3, 5, none⟩) na3 (.slice none 0 0)).trans hx3e; clear hx3e; have hx3 := hx3f; clear hx3f na3 hxb; clear hg3 hbox3 hb3) | (go_at_call 51; refine (impl_taker_byte.calls g2 l0 1 false f_ p_ _ w _ (by with_reducible repeat (first | exact HI3.out | refine IsS72.far ?_ N23.out _)) (by with_reducible repeat (first | exact HB3.out | refine below_set ?_ GE3.out)) H2.out).mono ?_; rintro e w4 ⟨rfl, hi, hb, hk⟩; have HI4 := Aside0.mk hi; have HB4 := Aside0.mk hb; have BK1_4 := Aside0.mk (hk.blk (g' := g1) (o := .cells #[.int .i64 0, .int .i64 0, .int .i64 0, .int .i64 0, .slice none 0 0, .slice none 0 0] 29 (0, 0)) (kX BK1_3.out) N12.out (by simp)); have BK3_4 := Aside0.mk (hk.blk (g' := g3) (o := .cells #[.int .i64 j, .int .i64 0, .int .i64 0, .int .i64 0, .slice none 0 0, .slice none 0 0] 29 (0, 0)) (kX BK3_3.out) N23.out.symm (by simp)); obtain ⟨A2, c2, hbk, -, -⟩ := HI4.out; obtain ⟨ya0, yb0, ya1, yb1, ya2, yb2⟩ := bk3 hbk; clear hx3 hz0 fz0 hz1 fz1 hz2 fz2 hz3 fz3 hz4 fz4 hz5 fz5 za0 zb0 za1 zb1 za2 zb2 za3 zb3 za4 zb4 za5 zb5; obtain ⟨hz0, fz0, hz1, fz1, hz2, fz2, hz3, fz3, hz4, fz4, hz5, fz5⟩ := bk6 BK1_4.out; obtain ⟨za0, zb0, za1, zb1, za2, zb2, za3, zb3, za4, zb4, za5, zb5⟩ := bk6 BK3_4.out; clear hi hb hk hbk) | (go_at_call 23; refine (impl_RespOk.calls k j f_ 0 0 none 0 [] none 0 [] true _ ⟨rfl, by decide, fun h_ => absurd h_ (by decide)⟩ (Nat.le_refl _) ⟨rfl, by decide, fun h_ => absurd h_ (by decide)⟩ (Nat.le_refl _) H3.out).mono ?_; rintro e w5 ⟨rfl, hb⟩; have HB5 := Aside0.mk (below_step (by with_reducible repeat (first | exact HB4.out | refine below_set ?_ GE1.out | refine below_set ?_ GE2.out | refine below_set ?_ GE3.out)) hb); have BK1_5 := Aside0.mk (blk_below (g := g1) (o := .cells #[.int .i64 0, .int .i64 0, .int .i64 0, .int .i64 0, .slice none 0 0, .slice none 0 0] 29 (0, 0)) (kX BK1_4.out) hb); have BK3_5 := Aside0.mk (blk_below (g := g3) (o := .cells #[.int .i64 j, .int .i64 f_, .int .i64 0, .int .i64 0, .slice none 0 0, .slice none 0 0] 29 (0, 0)) (kX BK3_4.out) hb); clear ya0 yb0 ya1 yb1 ya2 yb2 hz0 fz0 hz1 fz1 hz2 fz2 hz3 fz3 hz4 fz4 hz5 fz5 za0 zb0 za1 zb1 za2 zb2 za3 zb3 za4 zb4 za5 zb5; obtain ⟨hz0, fz0, hz1, fz1, hz2, fz2, hz3, fz3, hz4, fz4, hz5, fz5⟩ := bk6 BK1_5.out; obtain ⟨za0, zb0, za1, zb1, za2, zb2, za3, zb3, za4, zb4, za5, zb5⟩ := bk6 BK3_5.out; clear hb))
  refine bodyPost_ret (results_ct rfl _ _ g1 29 #[.int .i64 j, .int .i64 f_, .int .i64 0, .int .i64 0, .slice none 0 0, .slice none 0 0] (0, 0) _ rfl (kX BK1_5.out) Try.underlying29 rfl (by kernel_rfl)) rfl ?_
  exact ⟨_, _, rfl, Kd.R_nil _ _ _ _ _, Kd.R_nil _ _ _ _ _, by with_reducible repeat (first | exact HB5.out | refine below_set ?_ GE1.out | refine below_set ?_ GE2.out | refine below_set ?_ GE3.out | apply pw_below_drewN)⟩

set_option maxHeartbeats 8000000 in
set_option maxRecDepth 100000 in
theorem getResp_resp_bad (k : Nat) (A0 : Option Addr) (c0 : Nat) (l0 : List Int) {q1_ q2_ q3_ q4_ p_ : Int} {q5_ : List Int} {q6_ : List Bool} {b_ : Bool} (w : World) (hr0 : Kd.C (Kd.int .u8) w A0 l0.length l0) (hc0 : l0.length ≤ c0) (c0e : l0.length ≠ 0) (h1 : impl_isKind.f (wrap64 (Go.bits .and .u8 (rd l0 0) 127)) = some true) (hge : ¬ 128 ≤ rd l0 0) (h2 : impl_taker_resp.f k l0 1 false (wrap64 (Go.bits .and .u8 (rd l0 0) 127)) = some (q1_, q2_, q3_, q4_, q5_, q6_, p_, b_)) (hbad : b_ = true) :
    Calls Try.prog 18 #[.slice A0 l0.length c0] w (GetRespPost w 0 0 0 0 [] [] 3) := by
  have HR := Aside0.mk hr0
  have HC := Aside0.mk hc0
  clear hr0 hc0
  have cz : ((l0.length : Int) == 0) = false := by simp [c0e]
  have p1 : 0 ≤ (0 : Int) := by omega
  have q1 : (0 : Int) < (l0.length : Int) := by omega
  obtain ⟨ad, e0, hx0⟩ := Kd.at_int HR.out 0 p1 q1
  cases e0
  rw [show ad.add (Int.toNat 0) = ad from by cases ad; rfl] at hx0
  have HX := Aside0.mk hx0
  obtain ⟨m, hm⟩ : ∃ m, Go.bits .and .u8 (rd l0 0) 127 = m := ⟨_, rfl⟩
  obtain ⟨j, hj⟩ : ∃ j, wrap64 m = j := ⟨_, rfl⟩
  have hjw : IntKind.i64.wrap m = j := (i64_w _).trans hj
  rw [hm, hj] at h1
  have H1 := Aside0.mk h1
  have q2 : 0 < l0.length := by omega
  clear h1 c0e
  replace p1 := eq_true p1
  replace q1 := eq_true q1
  have cge : decide (128 ≤ rd l0 0) = false := decide_eq_false hge
  rw [hm, hj] at h2
  have H2 := Aside0.mk h2
  clear h2 hge
  subst hbad
  go_enter Try.func18, Try.ntmps18
  go_wp2_with (first | ((with_reducible refine gate_dst (N := 2) rfl ?_); refine box_event ?hg (N := 2) ?hd (cs := #[.int .i64 0, .int .i64 0, .int .i64 0, .int .i64 0, .slice none 0 0, .slice none 0 0]) (t := 29) ?hr ?_; (case hd => rfl); (case hg => rfl); (case hr => first | (go_simp; done) | (go_simp; rfl)); intro g1 hg1 w1 hbox1 hb1; have HB1 := Aside0.mk hb1; have BK1_1 := Aside0.mk hbox1; have GE1 := Aside0.mk (show w.heap.size ≤ g1 by omega); obtain ⟨hz0, fz0, hz1, fz1, hz2, fz2, hz3, fz3, hz4, fz4, hz5, fz5⟩ := bk6 hbox1; (try have hx1 := (pw_cell_below hb1 HX.out)); clear hg1 hbox1 hb1) | (go_at_call 50; refine (impl_isKind.calls j true _ H1.out).mono ?_; rintro e w' ⟨rfl, ⟨nd, rfl⟩⟩) | ((with_reducible refine gate_dst (N := 27) rfl ?_); refine box_event ?hg (N := 27) ?hd (cs := #[.slice (some ad) l0.length c0, .int .i64 1, .bool false]) (t := 72) ?hr ?_; (case hd => rfl); (case hg => rfl); (case hr => first | (go_simp; done) | (go_simp; rfl)); intro g2 hg2 w2 hbox2 hb2; have HB2 := Aside0.mk (below_step (pw_below_drewN HB1.out nd) hb2); have BK1_2 := Aside0.mk (blk_below (blk_drewN BK1_1.out nd) hb2); have GE2 := Aside0.mk (show w.heap.size ≤ g2 by rw [hg2]; exact below_size (pw_below_drewN HB1.out nd)); have N12 := Aside0.mk (show g1 ≠ g2 by rw [hg2]; exact Nat.ne_of_lt (blk_lt (blk_drewN BK1_1.out nd))); have HI2 := Aside0.mk (show IsS72 w w2 g2 l0 1 false from ⟨some ad, c0, hbox2, ⟨GE2.out, HC.out⟩, HR.out⟩); clear hx1; have hx2 := pw_cell_below HB2.out HX.out; clear hg2 hbox2 hb2) | ((with_reducible refine gate_dst (N := 6) rfl ?_); refine box_event ?hg (N := 6) ?hd (cs := #[.int .i64 0, .int .i64 0, .int .i64 0, .int .i64 0, .slice none 0 0, .slice none 0 0]) (t := 29) ?hr ?_; (case hd => rfl); (case hg => rfl); (case hr => first | (go_simp; done) | (go_simp; rfl)); intro g3 hg3 w3 hbox3 hb3; have HB3 := Aside0.mk (below_step HB2.out hb3); have GE3 := Aside0.mk (show w.heap.size ≤ g3 by rw [hg3]; exact below_size HB2.out); have BK1_3 := Aside0.mk (blk_below BK1_2.out hb3); have BK3_3 := Aside0.mk hbox3; have N13 := Aside0.mk (show g1 ≠ g3 by rw [hg3]; exact Nat.ne_of_lt (blk_lt BK1_2.out)); have HI3 := Aside0.mk (HI2.out.below hb3); have N23 := Aside0.mk (show g2 ≠ g3 by rw [hg3]; exact Nat.ne_of_lt HI2.out.lt); have N32 := Aside0.mk N23.out.symm; obtain ⟨za0, zb0, za1, zb1, za2, zb2, za3, zb3, za4, zb4, za5, zb5⟩ := bk6 hbox3; clear hx2 hz0 fz0 hz1 fz1 hz2 fz2 hz3 fz3 hz4 fz4 hz5 fz5; have hx3 := pw_cell_below HB3.out HX.out; obtain ⟨hz0, fz0, hz1, fz1, hz2, fz2, hz3, fz3, hz4, fz4, hz5, fz5⟩ := bk6 BK1_3.out; have n13 := N13.out; have n31 := n13.symm; have n23 := N23.out; have n32 := n23.symm; have n12 := N12.out; have n21 := n12.symm; have hxb := Aside0.mk (World.block_lt_of_cell? w _ HX.out); have na3 : ad.block ≠ g3 := Nat.ne_of_lt (Nat.lt_of_lt_of_le hxb.out GE3.out); have hx3a := (cell_far (p := ⟨g3, 0, none⟩) na3 (.int .i64 j)).trans hx3; clear hx3; have hx3b := (cell_far (p := ⟨g3, 1, none⟩) na3 (.int .i64 0)).trans hx3a; clear hx3a; have hx3c := (cell_far (p := ⟨g3, 2, none⟩) na3 (.int .i64 0)).trans hx3b; clear hx3b; have hx3d := (cell_far (p := ⟨g3, 3, none⟩) na3 (.int .i64 0)).trans hx3c; clear hx3c; have hx3e := (cell_far (p := ⟨g3, 4, none⟩) na3 (.slice none 0 0)).trans hx3d; clear hx3d; have hx3f := (cell_far (p := ⟨g3, 5, none⟩) na3 (.slice none 0 0)).trans hx3e; clear hx3e; have hx3 := hx3f; clear hx3f na3 hxb; clear hg3 hbox3 hb3) | (go_at_call 52; refine (impl_taker_resp.calls k g2 l0 1 false j q1_ q2_ q3_ q4_ q5_ q6_ p_ _ w _ (by with_reducible repeat (first | exact HI3.out | refine IsS72.far ?_ N23.out _)) (by with_reducible repeat (first | exact HB3.out | refine below_set ?_ GE3.out)) H2.out).mono ?_; rintro e w4 ⟨v4, v5, rfl, ho, ho2, hi, hb, hk⟩; have HO1 := Aside0.mk (Kd.R_lower ho (below_size (by with_reducible repeat (first | exact HB3.out | refine below_set ?_ GE3.out)))); have HO2 := Aside0.mk (Kd.R_lower ho2 (below_size (by with_reducible repeat (first | exact HB3.out | refine below_set ?_ GE3.out)))); clear ho ho2; obtain ⟨Ao1, co1, eo1⟩ := Kd.R_slice HO1.out; subst eo1; obtain ⟨Ao2, co2, eo2⟩ := Kd.R_slice HO2.out; subst eo2; have HI4 := Aside0.mk hi; have HB4 := Aside0.mk hb; have BK1_4 := Aside0.mk (hk.blk (g' := g1) (o := .cells #[.int .i64 0, .int .i64 0, .int .i64 0, .int .i64 0, .slice none 0 0, .slice none 0 0] 29 (0, 0)) (kX BK1_3.out) N12.out (by simp)); have BK3_4 := Aside0.mk (hk.blk (g' := g3) (o := .cells #[.int .i64 j, .int .i64 0, .int .i64 0, .int .i64 0, .slice none 0 0, .slice none 0 0] 29 (0, 0)) (kX BK3_3.out) N23.out.symm (by simp)); obtain ⟨A2, c2, hbk, -, -⟩ := HI4.out; obtain ⟨ya0, yb0, ya1, yb1, ya2, yb2⟩ := bk3 hbk; clear hx3 hz0 fz0 hz1 fz1 hz2 fz2 hz3 fz3 hz4 fz4 hz5 fz5 za0 zb0 za1 zb1 za2 zb2 za3 zb3 za4 zb4 za5 zb5; obtain ⟨hz0, fz0, hz1, fz1, hz2, fz2, hz3, fz3, hz4, fz4, hz5, fz5⟩ := bk6 BK1_4.out; obtain ⟨za0, zb0, za1, zb1, za2, zb2, za3, zb3, za4, zb4, za5, zb5⟩ := bk6 BK3_4.out; clear hi hb hk hbk))
  refine bodyPost_ret (results_ct rfl _ _ g1 29 #[.int .i64 0, .int .i64 0, .int .i64 0, .int .i64 0, .slice none 0 0, .slice none 0 0] (0, 0) _ rfl (kX BK1_4.out) Try.underlying29 rfl (by kernel_rfl)) rfl ?_
  exact ⟨_, _, rfl, Kd.R_nil _ _ _ _ _, Kd.R_nil _ _ _ _ _, by with_reducible repeat (first | exact HB4.out | refine below_set ?_ GE1.out | refine below_set ?_ GE2.out | refine below_set ?_ GE3.out | apply pw_below_drewN)⟩

set_option maxHeartbeats 8000000 in
set_option maxRecDepth 100000 in
theorem getResp_resp_at (k : Nat) (A0 : Option Addr) (c0 : Nat) (l0 : List Int) {q1_ q2_ q3_ q4_ p_ : Int} {q5_ : List Int} {q6_ : List Bool} {b_ : Bool} (w : World) (hr0 : Kd.C (Kd.int .u8) w A0 l0.length l0) (hc0 : l0.length ≤ c0) (c0e : l0.length ≠ 0) (h1 : impl_isKind.f (wrap64 (Go.bits .and .u8 (rd l0 0) 127)) = some true) (hge : ¬ 128 ≤ rd l0 0) (h2 : impl_taker_resp.f k l0 1 false (wrap64 (Go.bits .and .u8 (rd l0 0) 127)) = some (q1_, q2_, q3_, q4_, q5_, q6_, p_, b_)) (hb_ : b_ = false) (hp : p_ ≠ (l0.length : Int)) :
    Calls Try.prog 18 #[.slice A0 l0.length c0] w (GetRespPost w 0 0 0 0 [] [] 3) := by
  have HR := Aside0.mk hr0
  have HC := Aside0.mk hc0
  clear hr0 hc0
  have cz : ((l0.length : Int) == 0) = false := by simp [c0e]
  have p1 : 0 ≤ (0 : Int) := by omega
  have q1 : (0 : Int) < (l0.length : Int) := by omega
  obtain ⟨ad, e0, hx0⟩ := Kd.at_int HR.out 0 p1 q1
  cases e0
  rw [show ad.add (Int.toNat 0) = ad from by cases ad; rfl] at hx0
  have HX := Aside0.mk hx0
  obtain ⟨m, hm⟩ : ∃ m, Go.bits .and .u8 (rd l0 0) 127 = m := ⟨_, rfl⟩
  obtain ⟨j, hj⟩ : ∃ j, wrap64 m = j := ⟨_, rfl⟩
  have hjw : IntKind.i64.wrap m = j := (i64_w _).trans hj
  rw [hm, hj] at h1
  have H1 := Aside0.mk h1
  have q2 : 0 < l0.length := by omega
  clear h1 c0e
  replace p1 := eq_true p1
  replace q1 := eq_true q1
  have cge : decide (128 ≤ rd l0 0) = false := decide_eq_false hge
  rw [hm, hj] at h2
  have H2 := Aside0.mk h2
  clear h2 hge
  subst hb_
  have c1 : (p_ == (l0.length : Int)) = false := by simp [hp]
  have c2 : (p_ != (l0.length : Int)) = true := by simp [hp]
  clear hp
  go_enter Try.func18, Try.ntmps18
  go_wp2_with (first | ((with_reducible refine gate_dst (N := 2) rfl ?_); refine box_event ?hg (N := 2) ?hd (cs := #[.int .i64 0, .int .i64 0, .int .i64 0, .int .i64 0, .slice none 0 0, .slice none 0 0]) (t := 29) ?hr ?_; (case hd => rfl); (case hg => rfl); (case hr => first | (go_simp; done) | (go_simp; rfl)); intro g1 hg1 w1 hbox1 hb1; have HB1 := Aside0.mk hb1; have BK1_1 := Aside0.mk hbox1; have GE1 := Aside0.mk (show w.heap.size ≤ g1 by omega); obtain ⟨hz0, fz0, hz1, fz1, hz2, fz2, hz3, fz3, hz4, fz4, hz5, fz5⟩ := bk6 hbox1; (try have hx1 := (pw_cell_below hb1 HX.out)); clear hg1 hbox1 hb1) | (go_at_call 50; refine (impl_isKind.calls j true _ H1.out).mono ?_; rintro e w' ⟨rfl, ⟨nd, rfl⟩⟩) | ((with_reducible refine gate_dst (N := 27) rfl ?_); refine box_event ?hg (N := 27) ?hd (cs := #[.slice (some ad) l0.length c0, .int .i64 1, .bool false]) (t := 72) ?hr ?_; (case hd => rfl); (case hg => rfl); (case hr => first | (go_simp; done) | (go_simp; rfl)); intro g2 hg2 w2 hbox2 hb2; have HB2 := Aside0.mk (below_step (pw_below_drewN HB1.out nd) hb2); have BK1_2 := Aside0.mk (blk_below (blk_drewN BK1_1.out nd) hb2); have GE2 := Aside0.mk (show w.heap.size ≤ g2 by rw [hg2]; exact below_size (pw_below_drewN HB1.out nd)); have N12 := Aside0.mk (show g1 ≠ g2 by rw [hg2]; exact Nat.ne_of_lt (blk_lt (blk_drewN BK1_1.out nd))); have HI2 := Aside0.mk (show IsS72 w w2 g2 l0 1 false from ⟨some ad, c0, hbox2, ⟨GE2.out, HC.out⟩, HR.out⟩); clear hx1; have hx2 := pw_cell_below HB2.out HX.out; clear hg2 hbox2 hb2) | ((with_reducible refine gate_dst (N := 6) rfl ?_); refine box_event ?hg (N := 6) ?hd (cs := #[.int .i64 0, .int .i64 0, .int .i64 0, .int .i64 0, .slice none 0 0, .slice none 0 0]) (t := 29) ?hr ?_; (case hd => rfl); (case hg => rfl); (case hr => first | (go_simp; done) | (go_simp; rfl)); intro g3 hg3 w3 hbox3 hb3; have HB3 := Aside0.mk (below_step HB2.out hb3); have GE3 := Aside0.mk (show w.heap.size ≤ g3 by rw [hg3]; exact below_size HB2.out); have BK1_3 := Aside0.mk (blk_below BK1_2.out hb3); have BK3_3 := Aside0.mk hbox3; have N13 := Aside0.mk (show g1 ≠ g3 by rw [hg3]; exact Nat.ne_of_lt (blk_lt BK1_2.out)); have HI3 := Aside0.mk (HI2.out.below hb3); have N23 := Aside0.mk (show g2 ≠ g3 by rw [hg3]; exact Nat.ne_of_lt HI2.out.lt); have N32 := Aside0.mk N23.out.symm; obtain ⟨za0, zb0, za1, zb1, za2, zb2, za3, zb3, za4, zb4, za5, zb5⟩ := bk6 hbox3; clear hx2 hz0 fz0 hz1 fz1 hz2 fz2 hz3 fz3 hz4 fz4 hz5 fz5; have hx3 := pw_cell_below HB3.out HX.out; obtain ⟨hz0, fz0, hz1, fz1, hz2, fz2, hz3, fz3, hz4, fz4, hz5, fz5⟩ := bk6 BK1_3.out; have n13 := N13.out; have n31 := n13.symm; have n23 := N23.out; have n32 := n23.symm; have n12 := N12.out; have n21 := n12.symm; have hxb := Aside0.mk (World.block_lt_of_cell? w _ HX.out); have na3 : ad.block ≠ g3 := Nat.ne_of_lt (Nat.lt_of_lt_of_le hxb.out GE3.out); have hx3a := (cell_far (p := ⟨g3, 0, none⟩) na3 (.int .i64 j)).trans hx3; clear hx3; have hx3b := (cell_far (p := ⟨g3, 1, none⟩) na3 (.int .i64 0)).trans hx3a; clear hx3a; have hx3c := (cell_far (p := ⟨g3, 2, none⟩) na3 (.int .i64 0)).trans hx3b; clear hx3b; have hx3d := (cell_far (p := ⟨g3, 3, none⟩) na3 (.int .i64 0)).trans hx3c; clear hx3c; have hx3e := (cell_far (p := ⟨g3, 4, none⟩) na3 (.slice none 0 0)).trans hx3d; clear hx3d; have hx3f := (cell_far (p := ⟨g3, 5, none⟩) na3 (.slice none 0 0)).trans hx3e; clear hx3e; have hx3 := hx3f; clear hx3f na3 hxb; clear hg3 hbox3 hb3) | (go_at_call 52; refine (impl_taker_resp.calls k g2 l0 1 false j q1_ q2_ q3_ q4_ q5_ q6_ p_ _ w _ (by with_reducible repeat (first | exact HI3.out | refine IsS72.far ?_ N23.out _)) (by with_reducible repeat (first | exact HB3.out | refine below_set ?_ GE3.out)) H2.out).mono ?_; rintro e w4 ⟨v4, v5, rfl, ho, ho2, hi, hb, hk⟩; have HO1 := Aside0.mk (Kd.R_lower ho (below_size (by with_reducible repeat (first | exact HB3.out | refine below_set ?_ GE3.out)))); have HO2 := Aside0.mk (Kd.R_lower ho2 (below_size (by with_reducible repeat (first | exact HB3.out | refine below_set ?_ GE3.out)))); clear ho ho2; obtain ⟨Ao1, co1, eo1⟩ := Kd.R_slice HO1.out; subst eo1; obtain ⟨Ao2, co2, eo2⟩ := Kd.R_slice HO2.out; subst eo2; have HI4 := Aside0.mk hi; have HB4 := Aside0.mk hb; have BK1_4 := Aside0.mk (hk.blk (g' := g1) (o := .cells #[.int .i64 0, .int .i64 0, .int .i64 0, .int .i64 0, .slice none 0 0, .slice none 0 0] 29 (0, 0)) (kX BK1_3.out) N12.out (by simp)); have BK3_4 := Aside0.mk (hk.blk (g' := g3) (o := .cells #[.int .i64 j, .int .i64 0, .int .i64 0, .int .i64 0, .slice none 0 0, .slice none 0 0] 29 (0, 0)) (kX BK3_3.out) N23.out.symm (by simp)); obtain ⟨A2, c2, hbk, -, -⟩ := HI4.out; obtain ⟨ya0, yb0, ya1, yb1, ya2, yb2⟩ := bk3 hbk; clear hx3 hz0 fz0 hz1 fz1 hz2 fz2 hz3 fz3 hz4 fz4 hz5 fz5 za0 zb0 za1 zb1 za2 zb2 za3 zb3 za4 zb4 za5 zb5; obtain ⟨hz0, fz0, hz1, fz1, hz2, fz2, hz3, fz3, hz4, fz4, hz5, fz5⟩ := bk6 BK1_4.out; obtain ⟨za0, zb0, za1, zb1, za2, zb2, za3, zb3, za4, zb4, za5, zb5⟩ := bk6 BK3_4.out; clear hi hb hk hbk))
  refine bodyPost_ret (results_ct rfl _ _ g1 29 #[.int .i64 0, .int .i64 0, .int .i64 0, .int .i64 0, .slice none 0 0, .slice none 0 0] (0, 0) _ rfl (kX BK1_4.out) Try.underlying29 rfl (by kernel_rfl)) rfl ?_
  exact ⟨_, _, rfl, Kd.R_nil _ _ _ _ _, Kd.R_nil _ _ _ _ _, by with_reducible repeat (first | exact HB4.out | refine below_set ?_ GE1.out | refine below_set ?_ GE2.out | refine below_set ?_ GE3.out | apply pw_below_drewN)⟩

set_option maxHeartbeats 8000000 in
set_option maxRecDepth 100000 in
theorem getResp_resp_false (k : Nat) (A0 : Option Addr) (c0 : Nat) (l0 : List Int) {q1_ q2_ q3_ q4_ p_ : Int} {q5_ : List Int} {q6_ : List Bool} {b_ : Bool} (w : World) (hr0 : Kd.C (Kd.int .u8) w A0 l0.length l0) (hc0 : l0.length ≤ c0) (c0e : l0.length ≠ 0) (h1 : impl_isKind.f (wrap64 (Go.bits .and .u8 (rd l0 0) 127)) = some true) (hge : ¬ 128 ≤ rd l0 0) (h2 : impl_taker_resp.f k l0 1 false (wrap64 (Go.bits .and .u8 (rd l0 0) 127)) = some (q1_, q2_, q3_, q4_, q5_, q6_, p_, b_)) (hb_ : b_ = false) (hp : p_ = (l0.length : Int)) (h3 : impl_RespOk.f k q1_ q2_ q3_ q4_ q5_ q6_ = some false) :
    Calls Try.prog 18 #[.slice A0 l0.length c0] w (GetRespPost w 0 0 0 0 [] [] 3) := by
  have HR := Aside0.mk hr0
  have HC := Aside0.mk hc0
  clear hr0 hc0
  have cz : ((l0.length : Int) == 0) = false := by simp [c0e]
  have p1 : 0 ≤ (0 : Int) := by omega
  have q1 : (0 : Int) < (l0.length : Int) := by omega
  obtain ⟨ad, e0, hx0⟩ := Kd.at_int HR.out 0 p1 q1
  cases e0
  rw [show ad.add (Int.toNat 0) = ad from by cases ad; rfl] at hx0
  have HX := Aside0.mk hx0
  obtain ⟨m, hm⟩ : ∃ m, Go.bits .and .u8 (rd l0 0) 127 = m := ⟨_, rfl⟩
  obtain ⟨j, hj⟩ : ∃ j, wrap64 m = j := ⟨_, rfl⟩
  have hjw : IntKind.i64.wrap m = j := (i64_w _).trans hj
  rw [hm, hj] at h1
  have H1 := Aside0.mk h1
  have q2 : 0 < l0.length := by omega
  clear h1 c0e
  replace p1 := eq_true p1
  replace q1 := eq_true q1
  have cge : decide (128 ≤ rd l0 0) = false := decide_eq_false hge
  rw [hm, hj] at h2
  have H2 := Aside0.mk h2
  clear h2 hge
  have H3 := Aside0.mk h3
  clear h3
  subst hb_
  have c1 : (p_ == (l0.length : Int)) = true := by simp [hp]
  have c2 : (p_ != (l0.length : Int)) = false := by simp [hp]
  clear hp
  go_enter Try.func18, Try.ntmps18
  go_wp2_with (first | ((with_reducible refine gate_dst (N := 2) rfl ?_); refine box_event ?hg (N := 2) ?hd (cs := #[.int .i64 0, .int .i64 0, .int .i64 0, .int .i64 0, .slice none 0 0, .slice none 0 0]) (t := 29) ?hr ?_; (case hd => rfl); (case hg => rfl); (case hr => first | (go_simp; done) | (go_simp; rfl)); intro g1 hg1 w1 hbox1 hb1; have HB1 := Aside0.mk hb1; have BK1_1 := Aside0.mk hbox1; have GE1 := Aside0.mk (show w.heap.size ≤ g1 by omega); obtain ⟨hz0, fz0, hz1, fz1, hz2, fz2, hz3, fz3, hz4, fz4, hz5, fz5⟩ := bk6 hbox1; (try have hx1 := (pw_cell_below hb1 HX.out)); clear hg1 hbox1 hb1) | (go_at_call 50; refine (impl_isKind.calls j true _ H1.out).mono ?_; rintro e w' ⟨rfl, ⟨nd, rfl⟩⟩) | ((with_reducible refine gate_dst (N := 27) rfl ?_); refine box_event ?hg (N := 27) ?hd (cs := #[.slice (some ad) l0.length c0, .int .i64 1, .bool false]) (t := 72) ?hr ?_; (case hd => rfl); (case hg => rfl); (case hr => first | (go_simp; done) | (go_simp; rfl)); intro g2 hg2 w2 hbox2 hb2; have HB2 := Aside0.mk (below_step (pw_below_drewN HB1.out nd) hb2); have BK1_2 := Aside0.mk (blk_below (blk_drewN BK1_1.out nd) hb2); have GE2 := Aside0.mk (show w.heap.size ≤ g2 by rw [hg2]; exact below_size (pw_below_drewN HB1.out nd)); have N12 := Aside0.mk (show g1 ≠ g2 by rw [hg2]; exact Nat.ne_of_lt (blk_lt (blk_drewN BK1_1.out nd))); have HI2 := Aside0.mk (show IsS72 w w2 g2 l0 1 false from ⟨some ad, c0, hbox2, ⟨GE2.out, HC.out⟩, HR.out⟩); clear hx1; have hx2 := pw_cell_below HB2.out HX.out; clear hg2 hbox2 hb2) | ((with_reducible refine gate_dst (N := 6) rfl ?_); refine box_event ?hg (N := 6) ?hd (cs := #[.int .i64 0, .int .i64 0, .int .i64 0, .int .i64 0, .slice none 0 0, .slice none 0 0]) (t := 29) ?hr ?_; (case hd => rfl); (case hg => rfl); (case hr => first | (go_simp; done) | (go_simp; rfl)); intro g3 hg3 w3 hbox3 hb3; have HB3 := Aside0.mk (below_step HB2.out hb3); have GE3 := Aside0.mk (show w.heap.size ≤ g3 by rw [hg3]; exact below_size HB2.out); have BK1_3 := Aside0.mk (blk_below BK1_2.out hb3); have BK3_3 := Aside0.mk hbox3; have N13 := Aside0.mk (show g1 ≠ g3 by rw [hg3]; exact Nat.ne_of_lt (blk_lt BK1_2.out)); have HI3 := Aside0.mk (HI2.out.below hb3); have N23 := Aside0.mk (show g2 ≠ g3 by rw [hg3]; exact Nat.ne_of_lt HI2.out.lt); have N32 := Aside0.mk N23.out.symm; obtain ⟨za0, zb0, za1, zb1, za2, zb2, za3, zb3, za4, zb4, za5, zb5⟩ := bk6 hbox3; clear hx2 hz0 fz0 hz1 fz1 hz2 fz2 hz3 fz3 hz4 fz4 hz5 fz5; have hx3 := pw_cell_below HB3.out HX.out; obtain ⟨hz0, fz0, hz1, fz1, hz2, fz2, hz3, fz3, hz4, fz4, hz5, fz5⟩ := bk6 BK1_3.out; have n13 := N13.out; have n31 := n13.symm; have n23 := N23.out; have n32 := n23.symm; have n12 := N12.out; have n21 := n12.symm; have hxb := Aside0.mk (World.block_lt_of_cell? w _ HX.out); have na3 : ad.block ≠ g3 := Nat.ne_of_lt (Nat.lt_of_lt_of_le hxb.out GE3.out); have hx3a := (cell_far (p := ⟨g3, 0, none⟩) na3 (.int .i64 j)).trans hx3; clear hx3; have hx3b := (cell_far (p := ⟨g3, 1, none⟩) na3 (.int .i64 0)).trans hx3a; clear hx3a; have hx3c := (cell_far (p := ⟨g3, 2, none⟩) na3 (.int .i64 0)).trans hx3b; clear hx3b; have hx3d := (cell_far (p := ⟨g3, 3, none⟩) na3 (.int .i64 0)).trans hx3c; clear hx3c; have hx3e := (cell_far (p := ⟨g3, 4, none⟩) na3 (.slice none 0 0)).trans hx3d; clear hx3d; have hx3f := (cell_far (p := ⟨g3, 5, none⟩) na3 (.slice none 0 0)).trans hx3e; clear hx3e; have hx3 := hx3f; clear hx3f na3 hxb; clear hg3 hbox3 hb3) | (go_at_call 52; refine (impl_taker_resp.calls k g2 l0 1 false j q1_ q2_ q3_ q4_ q5_ q6_ p_ _ w _ (by with_reducible repeat (first | exact HI3.out | refine IsS72.far ?_ N23.out _)) (by with_reducible repeat (first | exact HB3.out | refine below_set ?_ GE3.out)) H2.out).mono ?_; rintro e w4 ⟨v4, v5, rfl, ho, ho2, hi, hb, hk⟩; have HO1 := Aside0.mk (Kd.R_lower ho (below_size (by with_reducible repeat (first | exact HB3.out | refine below_set ?_ GE3.out)))); have HO2 := Aside0.mk (Kd.R_lower ho2 (below_size (by with_reducible repeat (first | exact HB3.out | refine below_set ?_ GE3.out)))); clear ho ho2; obtain ⟨Ao1, co1, eo1⟩ := Kd.R_slice HO1.out; subst eo1; obtain ⟨Ao2, co2, eo2⟩ := Kd.R_slice HO2.out; subst eo2; have HI4 := Aside0.mk hi; have HB4 := Aside0.mk hb; have BK1_4 := Aside0.mk (hk.blk (g' := g1) (o := .cells #[.int .i64 0, .int .i64 0, .int .i64 0, .int .i64 0, .slice none 0 0, .slice none 0 0] 29 (0, 0)) (kX BK1_3.out) N12.out (by simp)); have BK3_4 := Aside0.mk (hk.blk (g' := g3) (o := .cells #[.int .i64 j, .int .i64 0, .int .i64 0, .int .i64 0, .slice none 0 0, .slice none 0 0] 29 (0, 0)) (kX BK3_3.out) N23.out.symm (by simp)); obtain ⟨A2, c2, hbk, -, -⟩ := HI4.out; obtain ⟨ya0, yb0, ya1, yb1, ya2, yb2⟩ := bk3 hbk; clear hx3 hz0 fz0 hz1 fz1 hz2 fz2 hz3 fz3 hz4 fz4 hz5 fz5 za0 zb0 za1 zb1 za2 zb2 za3 zb3 za4 zb4 za5 zb5; obtain ⟨hz0, fz0, hz1, fz1, hz2, fz2, hz3, fz3, hz4, fz4, hz5, fz5⟩ := bk6 BK1_4.out; obtain ⟨za0, zb0, za1, zb1, za2, zb2, za3, zb3, za4, zb4, za5, zb5⟩ := bk6 BK3_4.out; clear hi hb hk hbk) | (go_at_call 23; refine (impl_RespOk.calls k q1_ q2_ q3_ q4_ Ao1 co1 q5_ Ao2 co2 q6_ false _ (Kd.R_reads' (rF6 HO1.out BK3_4.out)).2.2 (Kd.R_reads' HO1.out).2.1 (Kd.R_reads' (rF6 HO2.out BK3_4.out)).2.2 (Kd.R_reads' HO2.out).2.1 H3.out).mono ?_; rintro e w5 ⟨rfl, hb⟩; have HO1c := Aside0.mk (Kd.R_below (rF6 HO1.out BK3_4.out) hb); have HO2c := Aside0.mk (Kd.R_below (rF6 HO2.out BK3_4.out) hb); have HB5 := Aside0.mk (below_step (by with_reducible repeat (first | exact HB4.out | refine below_set ?_ GE1.out | refine below_set ?_ GE2.out | refine below_set ?_ GE3.out)) hb); have BK1_5 := Aside0.mk (blk_below (g := g1) (o := .cells #[.int .i64 0, .int .i64 0, .int .i64 0, .int .i64 0, .slice none 0 0, .slice none 0 0] 29 (0, 0)) (kX BK1_4.out) hb); have BK3_5 := Aside0.mk (blk_below (g := g3) (o := .cells #[.int .i64 q1_, .int .i64 q2_, .int .i64 q3_, .int .i64 q4_, .slice Ao1 q5_.length co1, .slice Ao2 q6_.length co2] 29 (0, 0)) (kX BK3_4.out) hb); clear ya0 yb0 ya1 yb1 ya2 yb2 hz0 fz0 hz1 fz1 hz2 fz2 hz3 fz3 hz4 fz4 hz5 fz5 za0 zb0 za1 zb1 za2 zb2 za3 zb3 za4 zb4 za5 zb5; obtain ⟨hz0, fz0, hz1, fz1, hz2, fz2, hz3, fz3, hz4, fz4, hz5, fz5⟩ := bk6 BK1_5.out; obtain ⟨za0, zb0, za1, zb1, za2, zb2, za3, zb3, za4, zb4, za5, zb5⟩ := bk6 BK3_5.out; clear hb))
  refine bodyPost_ret (results_ct rfl _ _ g1 29 #[.int .i64 0, .int .i64 0, .int .i64 0, .int .i64 0, .slice none 0 0, .slice none 0 0] (0, 0) _ rfl (kX BK1_5.out) Try.underlying29 rfl (by kernel_rfl)) rfl ?_
  exact ⟨_, _, rfl, Kd.R_nil _ _ _ _ _, Kd.R_nil _ _ _ _ _, by with_reducible repeat (first | exact HB5.out | refine below_set ?_ GE1.out | refine below_set ?_ GE2.out | refine below_set ?_ GE3.out | apply pw_below_drewN)⟩

set_option maxHeartbeats 8000000 in
set_option maxRecDepth 100000 in
theorem getResp_resp_true (k : Nat) (A0 : Option Addr) (c0 : Nat) (l0 : List Int) {q1_ q2_ q3_ q4_ p_ : Int} {q5_ : List Int} {q6_ : List Bool} {b_ : Bool} (w : World) (hr0 : Kd.C (Kd.int .u8) w A0 l0.length l0) (hc0 : l0.length ≤ c0) (c0e : l0.length ≠ 0) (h1 : impl_isKind.f (wrap64 (Go.bits .and .u8 (rd l0 0) 127)) = some true) (hge : ¬ 128 ≤ rd l0 0) (h2 : impl_taker_resp.f k l0 1 false (wrap64 (Go.bits .and .u8 (rd l0 0) 127)) = some (q1_, q2_, q3_, q4_, q5_, q6_, p_, b_)) (hb_ : b_ = false) (hp : p_ = (l0.length : Int)) (h3 : impl_RespOk.f k q1_ q2_ q3_ q4_ q5_ q6_ = some true) :
    Calls Try.prog 18 #[.slice A0 l0.length c0] w (GetRespPost w q1_ q2_ q3_ q4_ q5_ q6_ 0) := by
  have HR := Aside0.mk hr0
  have HC := Aside0.mk hc0
  clear hr0 hc0
  have cz : ((l0.length : Int) == 0) = false := by simp [c0e]
  have p1 : 0 ≤ (0 : Int) := by omega
  have q1 : (0 : Int) < (l0.length : Int) := by omega
  obtain ⟨ad, e0, hx0⟩ := Kd.at_int HR.out 0 p1 q1
  cases e0
  rw [show ad.add (Int.toNat 0) = ad from by cases ad; rfl] at hx0
  have HX := Aside0.mk hx0
  obtain ⟨m, hm⟩ : ∃ m, Go.bits .and .u8 (rd l0 0) 127 = m := ⟨_, rfl⟩
  obtain ⟨j, hj⟩ : ∃ j, wrap64 m = j := ⟨_, rfl⟩
  have hjw : IntKind.i64.wrap m = j := (i64_w _).trans hj
  rw [hm, hj] at h1
  have H1 := Aside0.mk h1
  have q2 : 0 < l0.length := by omega
  clear h1 c0e
  replace p1 := eq_true p1
  replace q1 := eq_true q1
  have cge : decide (128 ≤ rd l0 0) = false := decide_eq_false hge
  rw [hm, hj] at h2
  have H2 := Aside0.mk h2
  clear h2 hge
  have H3 := Aside0.mk h3
  clear h3
  subst hb_
  have c1 : (p_ == (l0.length : Int)) = true := by simp [hp]
  have c2 : (p_ != (l0.length : Int)) = false := by simp [hp]
  clear hp
  go_enter Try.func18, Try.ntmps18
  go_wp2_with (first | ((with_reducible refine gate_dst (N := 2) rfl ?_); refine box_event ?hg (N := 2) ?hd (cs := #[.int .i64 0, .int .i64 0, .int .i64 0, .int .i64 0, .slice none 0 0, .slice none 0 0]) (t := 29) ?hr ?_; (case hd => rfl); (case hg => rfl); (case hr => first | (go_simp; done) | (go_simp; rfl)); intro g1 hg1 w1 hbox1 hb1; have HB1 := Aside0.mk hb1; have BK1_1 := Aside0.mk hbox1; have GE1 := Aside0.mk (show w.heap.size ≤ g1 by omega); obtain ⟨hz0, fz0, hz1, fz1, hz2, fz2, hz3, fz3, hz4, fz4, hz5, fz5⟩ := bk6 hbox1; (try have hx1 := (pw_cell_below hb1 HX.out)); clear hg1 hbox1 hb1) | (go_at_call 50; refine (impl_isKind.calls j true _ H1.out).mono ?_; rintro e w' ⟨rfl, ⟨nd, rfl⟩⟩) | ((with_reducible refine gate_dst (N := 27) rfl ?_); refine box_event ?hg (N := 27) ?hd (cs := #[.slice (some ad) l0.length c0, .int .i64 1, .bool false]) (t := 72) ?hr ?_; (case hd => rfl); (case hg => rfl); (case hr => first | (go_simp; done) | (go_simp; rfl)); intro g2 hg2 w2 hbox2 hb2; have HB2 := Aside0.mk (below_step (pw_below_drewN HB1.out nd) hb2); have BK1_2 := Aside0.mk (blk_below (blk_drewN BK1_1.out nd) hb2); have GE2 := Aside0.mk (show w.heap.size ≤ g2 by rw [hg2]; exact below_size (pw_below_drewN HB1.out nd)); have N12 := Aside0.mk (show g1 ≠ g2 by rw [hg2]; exact Nat.ne_of_lt (blk_lt (blk_drewN BK1_1.out nd))); have HI2 := Aside0.mk (show IsS72 w w2 g2 l0 1 false from ⟨some ad, c0, hbox2, ⟨GE2.out, HC.out⟩, HR.out⟩); clear hx1; have hx2 := pw_cell_below HB2.out HX.out; clear hg2 hbox2 hb2) | ((with_reducible refine gate_dst (N := 6) rfl ?_); refine box_event ?hg (N := 6) ?hd (cs := #[.int .i64 0, .int .i64 0, .int .i64 0, .int .i64 0, .slice none 0 0, .slice none 0 0]) (t := 29) ?hr ?_; (case hd => rfl); (case hg => rfl); (case hr => first | (go_simp; done) | (go_simp; rfl)); intro g3 hg3 w3 hbox3 hb3; have HB3 := Aside0.mk (below_step HB2.out hb3); have GE3 := Aside0.mk (show w.heap.size ≤ g3 by rw [hg3]; exact below_size HB2.out); have BK1_3 := Aside0.mk (blk_below BK1_2.out hb3); have BK3_3 := Aside0.mk hbox3; have N13 := Aside0.mk (show g1 ≠ g3 by rw [hg3]; exact Nat.ne_of_lt (blk_lt BK1_2.out)); have HI3 := Aside0.mk (HI2.out.below hb3); have N23 := Aside0.mk (show g2 ≠ g3 by rw [hg3]; exact Nat.ne_of_lt HI2.out.lt); have N32 := Aside0.mk N23.out.symm; obtain ⟨za0, zb0, za1, zb1, za2, zb2, za3, zb3, za4, zb4, za5, zb5⟩ := bk6 hbox3; clear hx2 hz0 fz0 hz1 fz1 hz2 fz2 hz3 fz3 hz4 fz4 hz5 fz5; have hx3 := pw_cell_below HB3.out HX.out; obtain ⟨hz0, fz0, hz1, fz1, hz2, fz2, hz3, fz3, hz4, fz4, hz5, fz5⟩ := bk6 BK1_3.out; have n13 := N13.out; have n31 := n13.symm; have n23 := N23.out; have n32 := n23.symm; have n12 := N12.out; have n21 := n12.symm; have hxb := Aside0.mk (World.block_lt_of_cell? w _ HX.out); have na3 : ad.block ≠ g3 := Nat.ne_of_lt (Nat.lt_of_lt_of_le hxb.out GE3.out); have hx3a := (cell_far (p := ⟨g3, 0, none⟩) na3 (.int .i64 j)).trans hx3; clear hx3; have hx3b := (cell_far (p := ⟨g3, 1, none⟩) na3 (.int .i64 0)).trans hx3a; clear hx3a; have hx3c := (cell_far (p := ⟨g3, 2, none⟩) na3 (.int .i64 0)).trans hx3b; clear hx3b; have hx3d := (cell_far (p := ⟨g3, 3, none⟩) na3 (.int .i64 0)).trans hx3c; clear hx3c; have hx3e := (cell_far (p := ⟨g3, 4, none⟩) na3 (.slice none 0 0)).trans hx3d; clear hx3d; have hx3f := (cell_far (p := ⟨g3, 5, none⟩) na3 (.slice none 0 0)).trans hx3e; clear hx3e; have hx3 := hx3f; clear hx3f na3 hxb; clear hg3 hbox3 hb3) | (go_at_call 52; refine (impl_taker_resp.calls k g2 l0 1 false j q1_ q2_ q3_ q4_ q5_ q6_ p_ _ w _ (by with_reducible repeat (first | exact HI3.out | refine IsS72.far ?_ N23.out _)) (by with_reducible repeat (first | exact HB3.out | refine below_set ?_ GE3.out)) H2.out).mono ?_; rintro e w4 ⟨v4, v5, rfl, ho, ho2, hi, hb, hk⟩; have HO1 := Aside0.mk (Kd.R_lower ho (below_size (by with_reducible repeat (first | exact HB3.out | refine below_set ?_ GE3.out)))); have HO2 := Aside0.mk (Kd.R_lower ho2 (below_size (by with_reducible repeat (first | exact HB3.out | refine below_set ?_ GE3.out)))); clear ho ho2; obtain ⟨Ao1, co1, eo1⟩ := Kd.R_slice HO1.out; subst eo1; obtain ⟨Ao2, co2, eo2⟩ := Kd.R_slice HO2.out; subst eo2; have HI4 := Aside0.mk hi; have HB4 := Aside0.mk hb; have BK1_4 := Aside0.mk (hk.blk (g' := g1) (o := .cells #[.int .i64 0, .int .i64 0, .int .i64 0, .int .i64 0, .slice none 0 0, .slice none 0 0] 29 (0, 0)) (kX BK1_3.out) N12.out (by simp)); have BK3_4 := Aside0.mk (hk.blk (g' := g3) (o := .cells #[.int .i64 j, .int .i64 0, .int .i64 0, .int .i64 0, .slice none 0 0, .slice none 0 0] 29 (0, 0)) (kX BK3_3.out) N23.out.symm (by simp)); obtain ⟨A2, c2, hbk, -, -⟩ := HI4.out; obtain ⟨ya0, yb0, ya1, yb1, ya2, yb2⟩ := bk3 hbk; clear hx3 hz0 fz0 hz1 fz1 hz2 fz2 hz3 fz3 hz4 fz4 hz5 fz5 za0 zb0 za1 zb1 za2 zb2 za3 zb3 za4 zb4 za5 zb5; obtain ⟨hz0, fz0, hz1, fz1, hz2, fz2, hz3, fz3, hz4, fz4, hz5, fz5⟩ := bk6 BK1_4.out; obtain ⟨za0, zb0, za1, zb1, za2, zb2, za3, zb3, za4, zb4, za5, zb5⟩ := bk6 BK3_4.out; clear hi hb hk hbk) | (go_at_call 23; refine (impl_RespOk.calls k q1_ q2_ q3_ q4_ Ao1 co1 q5_ Ao2 co2 q6_ true _ (Kd.R_reads' (rF6 HO1.out BK3_4.out)).2.2 (Kd.R_reads' HO1.out).2.1 (Kd.R_reads' (rF6 HO2.out BK3_4.out)).2.2 (Kd.R_reads' HO2.out).2.1 H3.out).mono ?_; rintro e w5 ⟨rfl, hb⟩; have HO1c := Aside0.mk (Kd.R_below (rF6 HO1.out BK3_4.out) hb); have HO2c := Aside0.mk (Kd.R_below (rF6 HO2.out BK3_4.out) hb); have HB5 := Aside0.mk (below_step (by with_reducible repeat (first | exact HB4.out | refine below_set ?_ GE1.out | refine below_set ?_ GE2.out | refine below_set ?_ GE3.out)) hb); have BK1_5 := Aside0.mk (blk_below (g := g1) (o := .cells #[.int .i64 0, .int .i64 0, .int .i64 0, .int .i64 0, .slice none 0 0, .slice none 0 0] 29 (0, 0)) (kX BK1_4.out) hb); have BK3_5 := Aside0.mk (blk_below (g := g3) (o := .cells #[.int .i64 q1_, .int .i64 q2_, .int .i64 q3_, .int .i64 q4_, .slice Ao1 q5_.length co1, .slice Ao2 q6_.length co2] 29 (0, 0)) (kX BK3_4.out) hb); clear ya0 yb0 ya1 yb1 ya2 yb2 hz0 fz0 hz1 fz1 hz2 fz2 hz3 fz3 hz4 fz4 hz5 fz5 za0 zb0 za1 zb1 za2 zb2 za3 zb3 za4 zb4 za5 zb5; obtain ⟨hz0, fz0, hz1, fz1, hz2, fz2, hz3, fz3, hz4, fz4, hz5, fz5⟩ := bk6 BK1_5.out; obtain ⟨za0, zb0, za1, zb1, za2, zb2, za3, zb3, za4, zb4, za5, zb5⟩ := bk6 BK3_5.out; clear hb))
  refine bodyPost_ret (results_ct rfl _ _ g1 29 #[.int .i64 q1_, .int .i64 q2_, .int .i64 q3_, .int .i64 q4_, .slice Ao1 q5_.length co1, .slice Ao2 q6_.length co2] (0, 0) _ rfl (kX BK1_5.out) Try.underlying29 rfl (by kernel_rfl)) rfl ?_
  exact ⟨_, _, rfl, rF6 HO1c.out BK1_5.out, rF6 HO2c.out BK1_5.out, by with_reducible repeat (first | exact HB5.out | refine below_set ?_ GE1.out | refine below_set ?_ GE2.out | refine below_set ?_ GE3.out | apply pw_below_drewN)⟩

theorem impl_GetResp.calls (k : Nat) (A0 : Option Addr) (c0 : Nat) (l0 : List Int) (r1 r2 r3 r4 : Int) (r5 : List Int) (r6 : List Bool) (r7 : Int) (w : World) (hr0 : Kd.C (Kd.int .u8) w A0 l0.length l0) (hc0 : l0.length ≤ c0) (h : impl_GetResp.f k l0 = some (r1, r2, r3, r4, r5, r6, r7)) :
    Calls Try.prog 18 #[.slice A0 l0.length c0] w (GetRespPost w r1 r2 r3 r4 r5 r6 r7) := by
  unfold impl_GetResp.f at h
  by_cases c0e : l0.length = 0
  · rw [if_pos c0e] at h
    simp only [Option.some.injEq, Prod.mk.injEq] at h
    obtain ⟨rfl, rfl, rfl, rfl, rfl, rfl, rfl⟩ := h
    exact getResp_none k A0 c0 l0 w hr0 hc0 c0e
  · rw [if_neg c0e] at h
    obtain ⟨t, h1, h⟩ := Option.bind_eq_some_iff.mp h
    cases t with
    | false =>
      rw [if_neg (by decide)] at h
      simp only [Option.some.injEq, Prod.mk.injEq] at h
      obtain ⟨rfl, rfl, rfl, rfl, rfl, rfl, rfl⟩ := h
      exact getResp_kind k A0 c0 l0 w hr0 hc0 c0e h1
    | true =>
      rw [if_pos rfl] at h
      by_cases hge : 128 ≤ rd l0 0
      · rw [if_pos hge] at h
        obtain ⟨⟨f_, p_, b_⟩, h2, h⟩ := Option.bind_eq_some_iff.mp h
        unfold respFin at h
        dsimp only at h
        by_cases hbad : (b_ || (f_ == 0)) = true
        · rw [if_pos hbad] at h
          simp only [Option.some.injEq, Prod.mk.injEq] at h
          obtain ⟨rfl, rfl, rfl, rfl, rfl, rfl, rfl⟩ := h
          exact getResp_fault_bad k A0 c0 l0 w hr0 hc0 c0e h1 hge h2 hbad
        · rw [if_neg hbad] at h
          have hb_ : b_ = false := by cases b_ <;> simp_all
          have hf : (f_ == 0) = false := by cases hq : (f_ == 0) <;> simp_all
          by_cases hp : p_ = (l0.length : Int)
          · rw [if_pos hp] at h
            obtain ⟨o, h3, h⟩ := Option.bind_eq_some_iff.mp h
            cases o with
            | false =>
              rw [if_neg (by decide)] at h
              simp only [Option.some.injEq, Prod.mk.injEq] at h
              obtain ⟨rfl, rfl, rfl, rfl, rfl, rfl, rfl⟩ := h
              exact getResp_fault_false k A0 c0 l0 w hr0 hc0 c0e h1 hge h2 hb_ hf hp h3
            | true =>
              rw [if_pos rfl] at h
              simp only [Option.some.injEq, Prod.mk.injEq] at h
              obtain ⟨rfl, rfl, rfl, rfl, rfl, rfl, rfl⟩ := h
              exact getResp_fault_true k A0 c0 l0 w hr0 hc0 c0e h1 hge h2 hb_ hf hp h3
          · rw [if_neg hp] at h
            simp only [Option.some.injEq, Prod.mk.injEq] at h
            obtain ⟨rfl, rfl, rfl, rfl, rfl, rfl, rfl⟩ := h
            exact getResp_fault_at k A0 c0 l0 w hr0 hc0 c0e h1 hge h2 hb_ hf hp
      · rw [if_neg hge] at h
        obtain ⟨⟨q1_, q2_, q3_, q4_, q5_, q6_, p_, b_⟩, h2, h⟩ := Option.bind_eq_some_iff.mp h
        unfold respFin at h
        dsimp only at h
        cases b_ with
        | true =>
          rw [if_pos rfl] at h
          simp only [Option.some.injEq, Prod.mk.injEq] at h
          obtain ⟨rfl, rfl, rfl, rfl, rfl, rfl, rfl⟩ := h
          exact getResp_resp_bad k A0 c0 l0 w hr0 hc0 c0e h1 hge h2 rfl
        | false =>
          rw [if_neg (by decide)] at h
          by_cases hp : p_ = (l0.length : Int)
          · rw [if_pos hp] at h
            obtain ⟨o, h3, h⟩ := Option.bind_eq_some_iff.mp h
            cases o with
            | false =>
              rw [if_neg (by decide)] at h
              simp only [Option.some.injEq, Prod.mk.injEq] at h
              obtain ⟨rfl, rfl, rfl, rfl, rfl, rfl, rfl⟩ := h
              exact getResp_resp_false k A0 c0 l0 w hr0 hc0 c0e h1 hge h2 rfl hp h3
            | true =>
              rw [if_pos rfl] at h
              simp only [Option.some.injEq, Prod.mk.injEq] at h
              obtain ⟨rfl, rfl, rfl, rfl, rfl, rfl, rfl⟩ := h
              exact getResp_resp_true k A0 c0 l0 w hr0 hc0 c0e h1 hge h2 rfl hp h3
          · rw [if_neg hp] at h
            simp only [Option.some.injEq, Prod.mk.injEq] at h
            obtain ⟨rfl, rfl, rfl, rfl, rfl, rfl, rfl⟩ := h
            exact getResp_resp_at k A0 c0 l0 w hr0 hc0 c0e h1 hge h2 rfl hp

end Go.Proofs.Ytfiplepbmennbaa.G
