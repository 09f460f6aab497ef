/- Functions and contracts of the law FnExactPutReq: what the Go text computes, step by step. -/
import Derived.Test.YteoghpcgompajaaL
import Derived.Test.YteoghpcgompajaaQFnExactPutReqx0
namespace Go.Proofs.Yteoghpcgompajaa.PFnExactPutReq
open Go.Proofs.Yteoghpcgompajaa.K Go.Proofs.Yteoghpcgompajaa.G Go.RowKit Go.Proofs.YteoghpcgompajaaW.PrintWords Go.Proofs.YteoghpcgompajaaW.PrintLast Go.Proofs.YteoghpcgompajaaW.PrintMore
attribute [local go_sem] max2_int min2_int max_two min_two max_three min_three max_four min_four   -- for this text's walks alone
set_option linter.unusedVariables false
set_option linter.unusedSimpArgs false

/-! ### impl_counts: function 60 -/
mutual
def impl_counts.j0 : Nat → Int → Bool → Int → Int → Int → Int → Option (Int × Int × Int × Int × Int × Int)
 | 0, _, _, _, _, _, _ => none
 | k + 1, x9, x10, x264000, x264001, x265000, x265001 => if x10 = true then (some (1, 2000, x264000, x264001, x264000, x264001)) else (if x9 = 3 then (impl_counts.j1 k x9 (x9 == 3) x264000 x264001 x265000 x265001) else (impl_counts.j1 k x9 (x9 == 4) x264000 x264001 x265000 x265001))
def impl_counts.j1 : Nat → Int → Bool → Int → Int → Int → Int → Option (Int × Int × Int × Int × Int × Int)
 | 0, _, _, _, _, _, _ => none
 | k + 1, x9, x16, x264000, x264001, x265000, x265001 => if x16 = true then (some (1, 125, x264000, x264001, x264000, x264001)) else (if x9 = 5 then (some (x264000, x264001, x264000, x264001, x265000, x265001)) else (if x9 = 6 then (some (x264000, x264001, x265000, x265001, x264000, x264001)) else (if x9 = 15 then (some (x264000, x264001, x264000, x264001, 1, 1968)) else (if x9 = 16 then (some (x264000, x264001, 1, 123, x264000, x264001)) else (if x9 = 22 then (some (x264000, x264001, 2, 2, x264000, x264001)) else (some (1, 125, 1, 121, x264000, x264001)))))))
end
def impl_counts.f (k : Nat) (a0 : Int) : Option (Int × Int × Int × Int × Int × Int) := if a0 = 1 then (impl_counts.j0 k a0 (a0 == 1) 0 0 1 1) else (impl_counts.j0 k a0 (a0 == 2) 0 0 1 1)
theorem impl_counts.mono_l : ∀ k, (∀ y0 y1 y2 y3 y4 y5, LeO (impl_counts.j0 k y0 y1 y2 y3 y4 y5) (impl_counts.j0 (k + 1) y0 y1 y2 y3 y4 y5)) ∧ (∀ y0 y1 y2 y3 y4 y5, LeO (impl_counts.j1 k y0 y1 y2 y3 y4 y5) (impl_counts.j1 (k + 1) y0 y1 y2 y3 y4 y5))
 | 0 => ⟨fun _ _ _ _ _ _ r h => by simp [impl_counts.j0] at h, fun _ _ _ _ _ _ r h => by simp [impl_counts.j1] at h⟩
 | k + 1 => by
  obtain ⟨ih0, ih1⟩ := impl_counts.mono_l k
  refine ⟨?_, ?_⟩
  ·intro y0 y1 y2 y3 y4 y5
   unfold impl_counts.j0
   repeat' first
   | (with_reducible exact ih0 _ _ _ _ _ _)
   | (with_reducible exact ih1 _ _ _ _ _ _)
   | (with_reducible exact LeO.refl _)
   | (with_reducible exact LeO.none _)
   | (with_reducible refine LeO.ite ?_ ?_)
   | (with_reducible refine LeO.bind ?_ (fun _ => ?_))
   | exact ih0 _ _ _ _ _ _
   | exact ih1 _ _ _ _ _ _
   | exact LeO.none _
   | refine LeO.ite ?_ ?_
   | refine LeO.bind ?_ (fun _ => ?_)
  ·intro y0 y1 y2 y3 y4 y5
   unfold impl_counts.j1
   repeat' first
   | (with_reducible exact ih0 _ _ _ _ _ _)
   | (with_reducible exact ih1 _ _ _ _ _ _)
   | (with_reducible exact LeO.refl _)
   | (with_reducible exact LeO.none _)
   | (with_reducible refine LeO.ite ?_ ?_)
   | (with_reducible refine LeO.bind ?_ (fun _ => ?_))
   | exact ih0 _ _ _ _ _ _
   | exact ih1 _ _ _ _ _ _
   | exact LeO.none _
   | refine LeO.ite ?_ ?_
   | refine LeO.bind ?_ (fun _ => ?_)
theorem impl_counts.mono : ∀ a0 k, LeO (impl_counts.f k a0) (impl_counts.f (k + 1) a0) := by
 intro a0 k
 obtain ⟨ih0, ih1⟩ := impl_counts.mono_l k
 unfold impl_counts.f
 repeat' first
   | (with_reducible exact ih0 _ _ _ _ _ _)
   | (with_reducible exact ih1 _ _ _ _ _ _)
   | (with_reducible exact LeO.refl _)
   | (with_reducible exact LeO.none _)
   | (with_reducible refine LeO.ite ?_ ?_)
   | (with_reducible refine LeO.bind ?_ (fun _ => ?_))
   | exact ih0 _ _ _ _ _ _
   | exact ih1 _ _ _ _ _ _
   | exact LeO.none _
   | refine LeO.ite ?_ ?_
   | refine LeO.bind ?_ (fun _ => ?_)
set_option maxHeartbeats 8000000 in
set_option maxRecDepth 100000 in
theorem impl_counts.calls (k : Nat) (a0 : Int) (r1 : Int) (r2 : Int) (r3 : Int) (r4 : Int) (r5 : Int) (r6 : Int) (w : World) (h : impl_counts.f k a0 = some (r1, r2, r3, r4, r5, r6)) :
  Calls Try.prog 60 #[.int .i64 a0] w fun e w' => e = .returned (.tuple #[.agg #[.int .i64 r1, .int .i64 r2], .agg #[.int .i64 r3, .int .i64 r4], .agg #[.int .i64 r5, .int .i64 r6]]) ∧ Below w.heap.size w w' := by
 have hu75 := Try.underlying75
 have HB := aM (Below.refl w.heap.size w)
 have H : (if a0 = 1 then (impl_counts.j0 k a0 (a0 == 1) 0 0 1 1) else (impl_counts.j0 k a0 (a0 == 2) 0 0 1 1)) = some (r1, r2, r3, r4, r5, r6) := h
 clear h
 have HC2 := aM H
 clear H
 go_enter Try.func60, Try.ntmps60
 go_upto_if 10 with (first | ((with_reducible refine gate_dst (N := 2) rfl ?_); refine box_event ?hg (N := 2) ?hd (cs := #[.int .i64 0, .int .i64 0]) (t := 75) ?hr ?_; (case hd => rfl); (case hg => rfl); (case hr => first | (go_simp; done) | (go_simp; rfl)); intro gb260 hg w3 hbox hb; have _ := aM (below_step (bS HB.out) hb); have _ := aM (hbox); have _ := aM (leG hg (bS HB.out)); have _ := aM (leG hg (bS HB.out)); clear HB; rename_i HB BK260 GW260 GE260; clear hb hbox hg) | ((with_reducible refine gate_dst (N := 3) rfl ?_); refine box_event ?hg (N := 3) ?hd (cs := #[.int .i64 0, .int .i64 0]) (t := 75) ?hr ?_; (case hd => rfl); (case hg => rfl); (case hr => first | (go_simp; done) | (go_simp; rfl)); intro gb261 hg w4 hbox hb; have _ := aM (kB BK260.out hb); have _ := aM (below_step (bS HB.out) hb); have _ := aM (hbox); have _ := aM (leG hg (bS HB.out)); have _ := aM (leG hg (bS HB.out)); have _ := aM (neL hg (kA BK260.out)); have _ := aM (neG hg (kA BK260.out)); clear BK260 HB; rename_i BK260 HB BK261 GW261 GE261 NB260_261 NB261_260; clear hb hbox hg) | ((with_reducible refine gate_dst (N := 4) rfl ?_); refine box_event ?hg (N := 4) ?hd (cs := #[.int .i64 0, .int .i64 0]) (t := 75) ?hr ?_; (case hd => rfl); (case hg => rfl); (case hr => first | (go_simp; done) | (go_simp; rfl)); intro gb262 hg w5 hbox hb; have _ := aM (kB BK260.out hb); have _ := aM (kB BK261.out hb); have _ := aM (below_step (bS HB.out) hb); have _ := aM (hbox); have _ := aM (leG hg (bS HB.out)); have _ := aM (leG hg (bS HB.out)); have _ := aM (neL hg (kA BK260.out)); have _ := aM (neG hg (kA BK260.out)); have _ := aM (neL hg (kA BK261.out)); have _ := aM (neG hg (kA BK261.out)); clear BK260 BK261 HB; rename_i BK260 BK261 HB BK262 GW262 GE262 NB260_262 NB262_260 NB261_262 NB262_261; clear hb hbox hg) | ((with_reducible refine gate_dst (N := 5) rfl ?_); refine box_event ?hg (N := 5) ?hd (cs := #[.int .i64 0, .int .i64 0]) (t := 75) ?hr ?_; (case hd => rfl); (case hg => rfl); (case hr => first | (go_simp; done) | (go_simp; rfl)); intro gb263 hg w6 hbox hb; have _ := aM (kB BK260.out hb); have _ := aM (kB BK261.out hb); have _ := aM (kB BK262.out hb); have _ := aM (below_step (bS HB.out) hb); have _ := aM (hbox); have _ := aM (leG hg (bS HB.out)); have _ := aM (leG hg (bS HB.out)); have _ := aM (neL hg (kA BK260.out)); have _ := aM (neG hg (kA BK260.out)); have _ := aM (neL hg (kA BK261.out)); have _ := aM (neG hg (kA BK261.out)); have _ := aM (neL hg (kA BK262.out)); have _ := aM (neG hg (kA BK262.out)); clear BK260 BK261 BK262 HB; rename_i BK260 BK261 BK262 HB BK263 GW263 GE263 NB260_263 NB263_260 NB261_263 NB263_261 NB262_263 NB263_262; clear hb hbox hg) | ((with_reducible refine gate_dst (N := 6) rfl ?_); refine box_event ?hg (N := 6) ?hd (cs := #[.int .i64 0, .int .i64 0]) (t := 75) ?hr ?_; (case hd => rfl); (case hg => rfl); (case hr => first | (go_simp; done) | (go_simp; rfl)); intro gb264 hg w7 hbox hb; have _ := aM (kB BK260.out hb); have _ := aM (kB BK261.out hb); have _ := aM (kB BK262.out hb); have _ := aM (kB BK263.out hb); have _ := aM (below_step (bS HB.out) hb); have _ := aM (hbox); have _ := aM (leG hg (bS HB.out)); have _ := aM (leG hg (bS HB.out)); have _ := aM (neL hg (kA BK260.out)); have _ := aM (neG hg (kA BK260.out)); have _ := aM (neL hg (kA BK261.out)); have _ := aM (neG hg (kA BK261.out)); have _ := aM (neL hg (kA BK262.out)); have _ := aM (neG hg (kA BK262.out)); have _ := aM (neL hg (kA BK263.out)); have _ := aM (neG hg (kA BK263.out)); clear BK260 BK261 BK262 BK263 HB; rename_i BK260 BK261 BK262 BK263 HB BK264 GW264 GE264 NB260_264 NB264_260 NB261_264 NB264_261 NB262_264 NB264_262 NB263_264 NB264_263; clear hb hbox hg; have hnb8 := NB263_260.out; have hnc8 := NB260_263.out; have hnb9 := NB263_261.out; have hnc9 := NB261_263.out; have hnb10 := NB263_262.out; have hnc10 := NB262_263.out; have hnb11 := NB263_264.out; have hnc11 := NB264_263.out; obtain ⟨hcz12_0, hfz12_0, hcz12_1, hfz12_1⟩ := bk2 BK263.out; have hnb13 := NB264_260.out; have hnc13 := NB260_264.out; have hnb14 := NB264_261.out; have hnc14 := NB261_264.out; have hnb15 := NB264_262.out; have hnc15 := NB262_264.out; obtain ⟨hcz16_0, hfz16_0, hcz16_1, hfz16_1⟩ := bk2 BK264.out))
 (try simp only [Act.put, List.setIfInBounds_toArray, List.set_cons_zero, List.set_cons_succ])
 go_cut [10] (fun v10 wc => ∃ (kq : Nat) (x10_1 : Bool), v10 = .bool x10_1 ∧ Aside0 (impl_counts.j0 kq a0 x10_1 0 0 1 1 = some (r1, r2, r3, r4, r5, r6)) ∧ Aside0 (kq ≤ k) ∧ Aside0 (wc.heap[gb260]? = some (.cells #[.int .i64 0, .int .i64 0] 75 (0, 0))) ∧ Aside0 (wc.heap[gb261]? = some (.cells #[.int .i64 0, .int .i64 0] 75 (0, 0))) ∧ Aside0 (wc.heap[gb262]? = some (.cells #[.int .i64 0, .int .i64 0] 75 (0, 0))) ∧ Aside0 (wc.heap[gb263]? = some (.cells #[.int .i64 0, .int .i64 0] 75 (0, 0))) ∧ Aside0 (wc.heap[gb264]? = some (.cells #[.int .i64 1, .int .i64 1] 75 (0, 0))) ∧ Aside0 (Below w.heap.size w wc))
 case first =>
  have H := HC2.out
  clear HC2
  by_cases c17 : a0 = 1
  ·rw [if_pos c17] at H
   have c17b0 : (a0 == 1) = true := beq_iff_eq.mpr c17
   have c17b1 : (a0 != 1) = false := bne_eq_false_iff_eq.mpr c17
   clear c17
   (first | rw [c17b0] | (simp only [i64_w, i32_w]; rw [c17b0]) | skip)
   have H' := aM H
   clear H
   go_wp2
   go_meet
   case rel => exact ⟨_, ((a0 == 1)), (by first | rfl | (simp; done) | (simp [*]; done)), H', ⟨by first | omega | exact Nat.le_refl _⟩, ⟨by (with_reducible repeat (first | refine blk_drewN ?_ _ | refine blk_drew ?_ | refine blk_alloc ?_ _)); refine blk_far ?_ NB260_264.out _; (with_reducible repeat (first | refine blk_drewN ?_ _ | refine blk_drew ?_ | refine blk_alloc ?_ _)); refine blk_far ?_ NB260_264.out _; (with_reducible repeat (first | refine blk_drewN ?_ _ | refine blk_drew ?_ | refine blk_alloc ?_ _)); refine blk_far ?_ NB260_263.out _; (with_reducible repeat (first | refine blk_drewN ?_ _ | refine blk_drew ?_ | refine blk_alloc ?_ _)); refine blk_far ?_ NB260_263.out _; (with_reducible repeat (first | refine blk_drewN ?_ _ | refine blk_drew ?_ | refine blk_alloc ?_ _)); exact BK260.out⟩, ⟨by (with_reducible repeat (first | refine blk_drewN ?_ _ | refine blk_drew ?_ | refine blk_alloc ?_ _)); refine blk_far ?_ NB261_264.out _; (with_reducible repeat (first | refine blk_drewN ?_ _ | refine blk_drew ?_ | refine blk_alloc ?_ _)); refine blk_far ?_ NB261_264.out _; (with_reducible repeat (first | refine blk_drewN ?_ _ | refine blk_drew ?_ | refine blk_alloc ?_ _)); refine blk_far ?_ NB261_263.out _; (with_reducible repeat (first | refine blk_drewN ?_ _ | refine blk_drew ?_ | refine blk_alloc ?_ _)); refine blk_far ?_ NB261_263.out _; (with_reducible repeat (first | refine blk_drewN ?_ _ | refine blk_drew ?_ | refine blk_alloc ?_ _)); exact BK261.out⟩, ⟨by (with_reducible repeat (first | refine blk_drewN ?_ _ | refine blk_drew ?_ | refine blk_alloc ?_ _)); refine blk_far ?_ NB262_264.out _; (with_reducible repeat (first | refine blk_drewN ?_ _ | refine blk_drew ?_ | refine blk_alloc ?_ _)); refine blk_far ?_ NB262_264.out _; (with_reducible repeat (first | refine blk_drewN ?_ _ | refine blk_drew ?_ | refine blk_alloc ?_ _)); refine blk_far ?_ NB262_263.out _; (with_reducible repeat (first | refine blk_drewN ?_ _ | refine blk_drew ?_ | refine blk_alloc ?_ _)); refine blk_far ?_ NB262_263.out _; (with_reducible repeat (first | refine blk_drewN ?_ _ | refine blk_drew ?_ | refine blk_alloc ?_ _)); exact BK262.out⟩, ⟨by (with_reducible repeat (first | refine blk_drewN ?_ _ | refine blk_drew ?_ | refine blk_alloc ?_ _)); refine blk_far ?_ NB263_264.out _; (with_reducible repeat (first | refine blk_drewN ?_ _ | refine blk_drew ?_ | refine blk_alloc ?_ _)); refine blk_far ?_ NB263_264.out _; (with_reducible repeat (first | refine blk_drewN ?_ _ | refine blk_drew ?_ | refine blk_alloc ?_ _)); refine blk_put (cs := #[.int .i64 0, .int .i64 0]) ?_ 1 _ rfl; (with_reducible repeat (first | refine blk_drewN ?_ _ | refine blk_drew ?_ | refine blk_alloc ?_ _)); refine blk_put (cs := #[.int .i64 0, .int .i64 0]) ?_ 0 _ rfl; (with_reducible repeat (first | refine blk_drewN ?_ _ | refine blk_drew ?_ | refine blk_alloc ?_ _)); exact BK263.out⟩, ⟨by (with_reducible repeat (first | refine blk_drewN ?_ _ | refine blk_drew ?_ | refine blk_alloc ?_ _)); refine blk_put (cs := #[.int .i64 1, .int .i64 0]) ?_ 1 _ rfl; (with_reducible repeat (first | refine blk_drewN ?_ _ | refine blk_drew ?_ | refine blk_alloc ?_ _)); refine blk_put (cs := #[.int .i64 0, .int .i64 0]) ?_ 0 _ rfl; (with_reducible repeat (first | refine blk_drewN ?_ _ | refine blk_drew ?_ | refine blk_alloc ?_ _)); refine blk_far ?_ NB264_263.out _; (with_reducible repeat (first | refine blk_drewN ?_ _ | refine blk_drew ?_ | refine blk_alloc ?_ _)); refine blk_far ?_ NB264_263.out _; (with_reducible repeat (first | refine blk_drewN ?_ _ | refine blk_drew ?_ | refine blk_alloc ?_ _)); exact BK264.out⟩, ⟨bS HB.out⟩⟩
  ·rw [if_neg c17] at H
   have c17b0 : (a0 == 1) = false := beq_eq_false_iff_ne.mpr c17
   have c17b1 : (a0 != 1) = true := bne_iff_ne.mpr c17
   (first | rw [c17b0] | (simp only [i64_w, i32_w]; rw [c17b0]) | skip)
   have H' := aM H
   clear H
   go_wp2
   go_meet
   case rel => exact ⟨_, ((a0 == 2)), (by first | rfl | (simp; done) | (simp [*]; done)), H', ⟨by first | omega | exact Nat.le_refl _⟩, ⟨by (with_reducible repeat (first | refine blk_drewN ?_ _ | refine blk_drew ?_ | refine blk_alloc ?_ _)); refine blk_far ?_ NB260_264.out _; (with_reducible repeat (first | refine blk_drewN ?_ _ | refine blk_drew ?_ | refine blk_alloc ?_ _)); refine blk_far ?_ NB260_264.out _; (with_reducible repeat (first | refine blk_drewN ?_ _ | refine blk_drew ?_ | refine blk_alloc ?_ _)); refine blk_far ?_ NB260_263.out _; (with_reducible repeat (first | refine blk_drewN ?_ _ | refine blk_drew ?_ | refine blk_alloc ?_ _)); refine blk_far ?_ NB260_263.out _; (with_reducible repeat (first | refine blk_drewN ?_ _ | refine blk_drew ?_ | refine blk_alloc ?_ _)); exact BK260.out⟩, ⟨by (with_reducible repeat (first | refine blk_drewN ?_ _ | refine blk_drew ?_ | refine blk_alloc ?_ _)); refine blk_far ?_ NB261_264.out _; (with_reducible repeat (first | refine blk_drewN ?_ _ | refine blk_drew ?_ | refine blk_alloc ?_ _)); refine blk_far ?_ NB261_264.out _; (with_reducible repeat (first | refine blk_drewN ?_ _ | refine blk_drew ?_ | refine blk_alloc ?_ _)); refine blk_far ?_ NB261_263.out _; (with_reducible repeat (first | refine blk_drewN ?_ _ | refine blk_drew ?_ | refine blk_alloc ?_ _)); refine blk_far ?_ NB261_263.out _; (with_reducible repeat (first | refine blk_drewN ?_ _ | refine blk_drew ?_ | refine blk_alloc ?_ _)); exact BK261.out⟩, ⟨by (with_reducible repeat (first | refine blk_drewN ?_ _ | refine blk_drew ?_ | refine blk_alloc ?_ _)); refine blk_far ?_ NB262_264.out _; (with_reducible repeat (first | refine blk_drewN ?_ _ | refine blk_drew ?_ | refine blk_alloc ?_ _)); refine blk_far ?_ NB262_264.out _; (with_reducible repeat (first | refine blk_drewN ?_ _ | refine blk_drew ?_ | refine blk_alloc ?_ _)); refine blk_far ?_ NB262_263.out _; (with_reducible repeat (first | refine blk_drewN ?_ _ | refine blk_drew ?_ | refine blk_alloc ?_ _)); refine blk_far ?_ NB262_263.out _; (with_reducible repeat (first | refine blk_drewN ?_ _ | refine blk_drew ?_ | refine blk_alloc ?_ _)); exact BK262.out⟩, ⟨by (with_reducible repeat (first | refine blk_drewN ?_ _ | refine blk_drew ?_ | refine blk_alloc ?_ _)); refine blk_far ?_ NB263_264.out _; (with_reducible repeat (first | refine blk_drewN ?_ _ | refine blk_drew ?_ | refine blk_alloc ?_ _)); refine blk_far ?_ NB263_264.out _; (with_reducible repeat (first | refine blk_drewN ?_ _ | refine blk_drew ?_ | refine blk_alloc ?_ _)); refine blk_put (cs := #[.int .i64 0, .int .i64 0]) ?_ 1 _ rfl; (with_reducible repeat (first | refine blk_drewN ?_ _ | refine blk_drew ?_ | refine blk_alloc ?_ _)); refine blk_put (cs := #[.int .i64 0, .int .i64 0]) ?_ 0 _ rfl; (with_reducible repeat (first | refine blk_drewN ?_ _ | refine blk_drew ?_ | refine blk_alloc ?_ _)); exact BK263.out⟩, ⟨by (with_reducible repeat (first | refine blk_drewN ?_ _ | refine blk_drew ?_ | refine blk_alloc ?_ _)); refine blk_put (cs := #[.int .i64 1, .int .i64 0]) ?_ 1 _ rfl; (with_reducible repeat (first | refine blk_drewN ?_ _ | refine blk_drew ?_ | refine blk_alloc ?_ _)); refine blk_put (cs := #[.int .i64 0, .int .i64 0]) ?_ 0 _ rfl; (with_reducible repeat (first | refine blk_drewN ?_ _ | refine blk_drew ?_ | refine blk_alloc ?_ _)); refine blk_far ?_ NB264_263.out _; (with_reducible repeat (first | refine blk_drewN ?_ _ | refine blk_drew ?_ | refine blk_alloc ?_ _)); refine blk_far ?_ NB264_263.out _; (with_reducible repeat (first | refine blk_drewN ?_ _ | refine blk_drew ?_ | refine blk_alloc ?_ _)); exact BK264.out⟩, ⟨bS HB.out⟩⟩
 case rest =>
  clear HC2
  try clear hcz12_0
  try clear hcz12_1
  try clear hcz16_0
  try clear hcz16_1
  try clear hfz12_0
  try clear hfz12_1
  try clear hfz16_0
  try clear hfz16_1
  obtain ⟨kq, x10_1, rfl, HA, HJ1, BK260, BK261, BK262, BK263, BK264, HB⟩ := hcut
  cases kq with
  | zero => exact absurd HA.out (by simp [impl_counts.j0])
  | succ kj1 =>
   have H := HA.out
   clear HA
   simp only [impl_counts.j0] at H
   by_cases c18 : x10_1 = true
   ·subst c18
    have H1 : (some (1, 2000, 0, 0, 0, 0)) = some (r1, r2, r3, r4, r5, r6) := by rw [if_pos rfl] at H; exact H
    clear H
    have H := H1
    clear H1
    simp only [Option.some.injEq, Prod.mk.injEq] at H
    obtain ⟨rfl, rfl, rfl, rfl, rfl, rfl⟩ := H
    try go_wp2
    have n0_ := aM (blk_drew BK260.out)
    have n1_ := aM (blk_drew BK261.out)
    have n2_ := aM (blk_drew BK262.out)
    have n3_ := aM (blk_drew BK263.out)
    have n4_ := aM (blk_drew BK264.out)
    have n5_ := aM (below_drew1 HB.out)
    clear BK260
    clear BK261
    clear BK262
    clear BK263
    clear BK264
    clear HB
    have BK260 := n0_
    have BK261 := n1_
    have BK262 := n2_
    have BK263 := n3_
    have BK264 := n4_
    have HB := n5_
    clear n0_ n1_ n2_ n3_ n4_ n5_
    refine start_ (n := 6) (S := fun w' => w'.cell? ⟨gb263, 0, none⟩ = some (.int .i64 0) ∧ w'.cell? ⟨gb263, 1, none⟩ = some (.int .i64 0)) (ds := []) #[false, false, false, false, false, false] (by kernel_rfl) rfl rfl ⟨(blk_cell BK263.out 0).trans rfl, (blk_cell BK263.out 1).trans rfl⟩ (fun hHeld => ?_)
    generalize wc.drew = w19 at BK260 BK261 BK262 BK263 BK264 HB hHeld ⊢
    refine pure_ (i := 0) (N := some 13) (v := ?_) (a' := ?_) #[true, false, false, false, false, false] rfl rfl (by kernel_rfl) (fun _ _ _ h => h) (Or.inl ⟨by rfl, ?_⟩) ?_ ?_
    rotate_left
    ·intro w'
     go_simp
     with_reducible rfl
    rotate_left
    ·simp only [Act.put, List.setIfInBounds_toArray, List.set_cons_zero, List.set_cons_succ, i64_w, i32_w]
     rfl
    refine take_ (i := 1) (N := some 14) (v := ?_) (a' := ?_) #[true, true, false, false, false, false] rfl rfl (by kernel_rfl) (fun _ _ _ h => h) (Or.inl ⟨by rfl, ?_⟩) hHeld ?_ ?_
    rotate_left
    ·rintro w' ⟨s0, s1⟩
     go_simp
     with_reducible rfl
    rotate_left
    ·simp only [Act.put, List.setIfInBounds_toArray, List.set_cons_zero, List.set_cons_succ, i64_w, i32_w]
     rfl
    refine take_ (i := 2) (N := some 15) (v := ?_) (a' := ?_) #[true, true, true, false, false, false] rfl rfl (by kernel_rfl) (fun _ _ _ h => h) (Or.inl ⟨by rfl, ?_⟩) hHeld ?_ ?_
    rotate_left
    ·rintro w' ⟨s0, s1⟩
     go_simp
     with_reducible rfl
    rotate_left
    ·simp only [Act.put, List.setIfInBounds_toArray, List.set_cons_zero, List.set_cons_succ, i64_w, i32_w]
     rfl
    refine one_ (i := 3) (N := none) #[true, true, true, true, false, false] rfl rfl (by kernel_rfl) (by decide) (fun K hK => ?_)
    have hs20 : w19.cell? ⟨gb260, 0, none⟩ = some (.int .i64 0) := (blk_cell BK260.out 0).trans rfl
    have hfs20 := blk_frozen BK260.out 0
    have hns20_1 := NB261_260.out
    have hns20_2 := NB262_260.out
    have hns20_3 := NB263_260.out
    have hns20_4 := NB264_260.out
    have hms20_1 := NB260_261.out
    have hms20_2 := NB260_262.out
    have hms20_3 := NB260_263.out
    have hms20_4 := NB260_264.out
    have hs21 : w19.cell? ⟨gb260, 1, none⟩ = some (.int .i64 0) := (blk_cell BK260.out 1).trans rfl
    have hfs21 := blk_frozen BK260.out 1
    have hns21_1 := NB261_260.out
    have hns21_2 := NB262_260.out
    have hns21_3 := NB263_260.out
    have hns21_4 := NB264_260.out
    have hms21_1 := NB260_261.out
    have hms21_2 := NB260_262.out
    have hms21_3 := NB260_263.out
    have hms21_4 := NB260_264.out
    refine skip_ (w1 := ?_) (by rfl) rfl ?_ ?_
    rotate_left
    ·go_simp
     rfl
    refine hK.out _ _ ⟨((cell_far (p := ⟨gb260, _, none⟩) NB263_260.out _).trans (((cell_far (p := ⟨gb260, _, none⟩) NB263_260.out _).trans (hHeld.1)))), ((cell_far (p := ⟨gb260, _, none⟩) NB263_260.out _).trans (((cell_far (p := ⟨gb260, _, none⟩) NB263_260.out _).trans (hHeld.2))))⟩ (fun hHeld => ?_)
    clear hK K
    refine one_ (i := 4) (N := none) #[true, true, true, true, true, false] rfl rfl (by kernel_rfl) (by decide) (fun K hK => ?_)
    have hs22 : w19.cell? ⟨gb261, 0, none⟩ = some (.int .i64 0) := (blk_cell BK261.out 0).trans rfl
    have hfs22 := blk_frozen BK261.out 0
    have hns22_0 := NB260_261.out
    have hns22_2 := NB262_261.out
    have hns22_3 := NB263_261.out
    have hns22_4 := NB264_261.out
    have hms22_0 := NB261_260.out
    have hms22_2 := NB261_262.out
    have hms22_3 := NB261_263.out
    have hms22_4 := NB261_264.out
    have hs23 : w19.cell? ⟨gb261, 1, none⟩ = some (.int .i64 0) := (blk_cell BK261.out 1).trans rfl
    have hfs23 := blk_frozen BK261.out 1
    have hns23_0 := NB260_261.out
    have hns23_2 := NB262_261.out
    have hns23_3 := NB263_261.out
    have hns23_4 := NB264_261.out
    have hms23_0 := NB261_260.out
    have hms23_2 := NB261_262.out
    have hms23_3 := NB261_263.out
    have hms23_4 := NB261_264.out
    refine skip_ (w1 := ?_) (by rfl) rfl ?_ ?_
    rotate_left
    ·go_simp
     rfl
    refine hK.out _ _ ⟨((cell_far (p := ⟨gb261, _, none⟩) NB263_261.out _).trans (((cell_far (p := ⟨gb261, _, none⟩) NB263_261.out _).trans (hHeld.1)))), ((cell_far (p := ⟨gb261, _, none⟩) NB263_261.out _).trans (((cell_far (p := ⟨gb261, _, none⟩) NB263_261.out _).trans (hHeld.2))))⟩ (fun hHeld => ?_)
    clear hK K
    refine one_ (i := 5) (N := none) #[true, true, true, true, true, true] rfl rfl (by kernel_rfl) (by decide) (fun K hK => ?_)
    have hs24 : w19.cell? ⟨gb262, 0, none⟩ = some (.int .i64 0) := (blk_cell BK262.out 0).trans rfl
    have hfs24 := blk_frozen BK262.out 0
    have hns24_0 := NB260_262.out
    have hns24_1 := NB261_262.out
    have hns24_3 := NB263_262.out
    have hns24_4 := NB264_262.out
    have hms24_0 := NB262_260.out
    have hms24_1 := NB262_261.out
    have hms24_3 := NB262_263.out
    have hms24_4 := NB262_264.out
    have hs25 : w19.cell? ⟨gb262, 1, none⟩ = some (.int .i64 0) := (blk_cell BK262.out 1).trans rfl
    have hfs25 := blk_frozen BK262.out 1
    have hns25_0 := NB260_262.out
    have hns25_1 := NB261_262.out
    have hns25_3 := NB263_262.out
    have hns25_4 := NB264_262.out
    have hms25_0 := NB262_260.out
    have hms25_1 := NB262_261.out
    have hms25_3 := NB262_263.out
    have hms25_4 := NB262_264.out
    refine skip_ (w1 := ?_) (by rfl) rfl ?_ ?_
    rotate_left
    ·go_simp
     rfl
    refine hK.out _ _ ⟨((cell_far (p := ⟨gb262, _, none⟩) NB263_262.out _).trans (((cell_far (p := ⟨gb262, _, none⟩) NB263_262.out _).trans (hHeld.1)))), ((cell_far (p := ⟨gb262, _, none⟩) NB263_262.out _).trans (((cell_far (p := ⟨gb262, _, none⟩) NB263_262.out _).trans (hHeld.2))))⟩ (fun hHeld => ?_)
    clear hK K
    refine done_ (by kernel_rfl) ?_
    try go_wp2
    refine bodyPost_ret (results_list (rs := [.cell 2 75, .cell 3 75, .cell 4 75]) rfl (by simp) (.cell gb260 75 #[.int .i64 1, .int .i64 2000] (0, 0) _ rfl (by (with_reducible repeat (first | refine blk_drewN ?_ _ | refine blk_drew ?_ | refine blk_alloc ?_ _)); refine blk_far ?_ NB260_262.out _; (with_reducible repeat (first | refine blk_drewN ?_ _ | refine blk_drew ?_ | refine blk_alloc ?_ _)); refine blk_far ?_ NB260_262.out _; (with_reducible repeat (first | refine blk_drewN ?_ _ | refine blk_drew ?_ | refine blk_alloc ?_ _)); refine blk_far ?_ NB260_261.out _; (with_reducible repeat (first | refine blk_drewN ?_ _ | refine blk_drew ?_ | refine blk_alloc ?_ _)); refine blk_far ?_ NB260_261.out _; (with_reducible repeat (first | refine blk_drewN ?_ _ | refine blk_drew ?_ | refine blk_alloc ?_ _)); refine blk_put (cs := #[.int .i64 1, .int .i64 0]) ?_ 1 _ rfl; (with_reducible repeat (first | refine blk_drewN ?_ _ | refine blk_drew ?_ | refine blk_alloc ?_ _)); refine blk_put (cs := #[.int .i64 0, .int .i64 0]) ?_ 0 _ rfl; (with_reducible repeat (first | refine blk_drewN ?_ _ | refine blk_drew ?_ | refine blk_alloc ?_ _)); exact BK260.out) Try.underlying75 rfl (by kernel_rfl) (.cell gb261 75 #[.int .i64 0, .int .i64 0] (0, 0) _ rfl (by (with_reducible repeat (first | refine blk_drewN ?_ _ | refine blk_drew ?_ | refine blk_alloc ?_ _)); refine blk_far ?_ NB261_262.out _; (with_reducible repeat (first | refine blk_drewN ?_ _ | refine blk_drew ?_ | refine blk_alloc ?_ _)); refine blk_far ?_ NB261_262.out _; (with_reducible repeat (first | refine blk_drewN ?_ _ | refine blk_drew ?_ | refine blk_alloc ?_ _)); refine blk_put (cs := #[.int .i64 0, .int .i64 0]) ?_ 1 _ rfl; (with_reducible repeat (first | refine blk_drewN ?_ _ | refine blk_drew ?_ | refine blk_alloc ?_ _)); refine blk_put (cs := #[.int .i64 0, .int .i64 0]) ?_ 0 _ rfl; (with_reducible repeat (first | refine blk_drewN ?_ _ | refine blk_drew ?_ | refine blk_alloc ?_ _)); refine blk_far ?_ NB261_260.out _; (with_reducible repeat (first | refine blk_drewN ?_ _ | refine blk_drew ?_ | refine blk_alloc ?_ _)); refine blk_far ?_ NB261_260.out _; (with_reducible repeat (first | refine blk_drewN ?_ _ | refine blk_drew ?_ | refine blk_alloc ?_ _)); exact BK261.out) Try.underlying75 rfl (by kernel_rfl) (.cell gb262 75 #[.int .i64 0, .int .i64 0] (0, 0) _ rfl (by (with_reducible repeat (first | refine blk_drewN ?_ _ | refine blk_drew ?_ | refine blk_alloc ?_ _)); refine blk_put (cs := #[.int .i64 0, .int .i64 0]) ?_ 1 _ rfl; (with_reducible repeat (first | refine blk_drewN ?_ _ | refine blk_drew ?_ | refine blk_alloc ?_ _)); refine blk_put (cs := #[.int .i64 0, .int .i64 0]) ?_ 0 _ rfl; (with_reducible repeat (first | refine blk_drewN ?_ _ | refine blk_drew ?_ | refine blk_alloc ?_ _)); refine blk_far ?_ NB262_261.out _; (with_reducible repeat (first | refine blk_drewN ?_ _ | refine blk_drew ?_ | refine blk_alloc ?_ _)); refine blk_far ?_ NB262_261.out _; (with_reducible repeat (first | refine blk_drewN ?_ _ | refine blk_drew ?_ | refine blk_alloc ?_ _)); refine blk_far ?_ NB262_260.out _; (with_reducible repeat (first | refine blk_drewN ?_ _ | refine blk_drew ?_ | refine blk_alloc ?_ _)); refine blk_far ?_ NB262_260.out _; (with_reducible repeat (first | refine blk_drewN ?_ _ | refine blk_drew ?_ | refine blk_alloc ?_ _)); exact BK262.out) Try.underlying75 rfl (by kernel_rfl) .nil)))) rfl ?_
    exact ⟨by first | rfl | (simp [errW_none, errW_some] <;> rfl) | (simp [*, errW_none, errW_some] <;> rfl), bS HB.out⟩
   ·replace c18 := Bool.eq_false_iff.mpr c18
    subst c18
    have H1 : (if a0 = 3 then (impl_counts.j1 kj1 a0 (a0 == 3) 0 0 1 1) else (impl_counts.j1 kj1 a0 (a0 == 4) 0 0 1 1)) = some (r1, r2, r3, r4, r5, r6) := by rw [if_neg (show ¬ (false = true) by decide)] at H; exact H
    clear H
    have H := H1
    clear H1
    have HC26 := aM H
    clear H
    go_upto_if 16 with (fail)
    go_cut [16] (fun v16 wc => ∃ (kq : Nat) (x16_25 : Bool), v16 = .bool x16_25 ∧ Aside0 (impl_counts.j1 kq a0 x16_25 0 0 1 1 = some (r1, r2, r3, r4, r5, r6)) ∧ Aside0 (kq ≤ kj1) ∧ Aside0 (wc.heap[gb260]? = some (.cells #[.int .i64 0, .int .i64 0] 75 (0, 0))) ∧ Aside0 (wc.heap[gb261]? = some (.cells #[.int .i64 0, .int .i64 0] 75 (0, 0))) ∧ Aside0 (wc.heap[gb262]? = some (.cells #[.int .i64 0, .int .i64 0] 75 (0, 0))) ∧ Aside0 (wc.heap[gb263]? = some (.cells #[.int .i64 0, .int .i64 0] 75 (0, 0))) ∧ Aside0 (wc.heap[gb264]? = some (.cells #[.int .i64 1, .int .i64 1] 75 (0, 0))) ∧ Aside0 (Below w.heap.size w wc))
    case first =>
     have H := HC26.out
     clear HC26
     by_cases c27 : a0 = 3
     ·rw [if_pos c27] at H
      have c27b0 : (a0 == 3) = true := beq_iff_eq.mpr c27
      have c27b1 : (a0 != 3) = false := bne_eq_false_iff_eq.mpr c27
      clear c27
      (first | rw [c27b0] | (simp only [i64_w, i32_w]; rw [c27b0]) | skip)
      have H' := aM H
      clear H
      go_wp2
      go_meet
      case rel => exact ⟨_, ((a0 == 3)), (by first | rfl | (simp; done) | (simp [*]; done)), H', ⟨by have := HJ1.out; first | omega | exact Nat.le_refl _⟩, ⟨by (with_reducible repeat (first | refine blk_drewN ?_ _ | refine blk_drew ?_ | refine blk_alloc ?_ _)); exact BK260.out⟩, ⟨by (with_reducible repeat (first | refine blk_drewN ?_ _ | refine blk_drew ?_ | refine blk_alloc ?_ _)); exact BK261.out⟩, ⟨by (with_reducible repeat (first | refine blk_drewN ?_ _ | refine blk_drew ?_ | refine blk_alloc ?_ _)); exact BK262.out⟩, ⟨by (with_reducible repeat (first | refine blk_drewN ?_ _ | refine blk_drew ?_ | refine blk_alloc ?_ _)); exact BK263.out⟩, ⟨by (with_reducible repeat (first | refine blk_drewN ?_ _ | refine blk_drew ?_ | refine blk_alloc ?_ _)); exact BK264.out⟩, ⟨bS HB.out⟩⟩
     ·rw [if_neg c27] at H
      have c27b0 : (a0 == 3) = false := beq_eq_false_iff_ne.mpr c27
      have c27b1 : (a0 != 3) = true := bne_iff_ne.mpr c27
      (first | rw [c27b0] | (simp only [i64_w, i32_w]; rw [c27b0]) | skip)
      have H' := aM H
      clear H
      go_wp2
      go_meet
      case rel => exact ⟨_, ((a0 == 4)), (by first | rfl | (simp; done) | (simp [*]; done)), H', ⟨by have := HJ1.out; first | omega | exact Nat.le_refl _⟩, ⟨by (with_reducible repeat (first | refine blk_drewN ?_ _ | refine blk_drew ?_ | refine blk_alloc ?_ _)); exact BK260.out⟩, ⟨by (with_reducible repeat (first | refine blk_drewN ?_ _ | refine blk_drew ?_ | refine blk_alloc ?_ _)); exact BK261.out⟩, ⟨by (with_reducible repeat (first | refine blk_drewN ?_ _ | refine blk_drew ?_ | refine blk_alloc ?_ _)); exact BK262.out⟩, ⟨by (with_reducible repeat (first | refine blk_drewN ?_ _ | refine blk_drew ?_ | refine blk_alloc ?_ _)); exact BK263.out⟩, ⟨by (with_reducible repeat (first | refine blk_drewN ?_ _ | refine blk_drew ?_ | refine blk_alloc ?_ _)); exact BK264.out⟩, ⟨bS HB.out⟩⟩
    case rest =>
     clear HC26
     try clear c1
     try clear p2
     try clear c6
     try clear c8
     try clear c9
     try clear c10
     try clear c11
     try clear c13
     try clear c14
     try clear c15
     try clear c17
     try clear c17b0
     try clear c17b1
     try clear c18
     try clear hcz12_0
     try clear hcz12_1
     try clear hcz16_0
     try clear hcz16_1
     try clear hfz12_0
     try clear hfz12_1
     try clear hfz16_0
     try clear hfz16_1
     try clear p2
     obtain ⟨kq, x16_25, rfl, HA, HJ25, BK260, BK261, BK262, BK263, BK264, HB⟩ := hcut
     cases kq with
     | zero => exact absurd HA.out (by simp [impl_counts.j1])
     | succ kj25 =>
      have H := HA.out
      clear HA
      simp only [impl_counts.j1] at H
      by_cases c28 : x16_25 = true
      ·subst c28
       have H1 : (some (1, 125, 0, 0, 0, 0)) = some (r1, r2, r3, r4, r5, r6) := by rw [if_pos rfl] at H; exact H
       clear H
       have H := H1
       clear H1
       simp only [Option.some.injEq, Prod.mk.injEq] at H
       obtain ⟨rfl, rfl, rfl, rfl, rfl, rfl⟩ := H
       try go_wp2
       have n0_ := aM (blk_drew BK260.out)
       have n1_ := aM (blk_drew BK261.out)
       have n2_ := aM (blk_drew BK262.out)
       have n3_ := aM (blk_drew BK263.out)
       have n4_ := aM (blk_drew BK264.out)
       have n5_ := aM (below_drew1 HB.out)
       clear BK260
       clear BK261
       clear BK262
       clear BK263
       clear BK264
       clear HB
       have BK260 := n0_
       have BK261 := n1_
       have BK262 := n2_
       have BK263 := n3_
       have BK264 := n4_
       have HB := n5_
       clear n0_ n1_ n2_ n3_ n4_ n5_
       refine start_ (n := 6) (S := fun w' => w'.cell? ⟨gb263, 0, none⟩ = some (.int .i64 0) ∧ w'.cell? ⟨gb263, 1, none⟩ = some (.int .i64 0)) (ds := []) #[false, false, false, false, false, false] (by kernel_rfl) rfl rfl ⟨(blk_cell BK263.out 0).trans rfl, (blk_cell BK263.out 1).trans rfl⟩ (fun hHeld => ?_)
       generalize wc.drew = w29 at BK260 BK261 BK262 BK263 BK264 HB hHeld ⊢
       refine pure_ (i := 0) (N := some 19) (v := ?_) (a' := ?_) #[true, false, false, false, false, false] rfl rfl (by kernel_rfl) (fun _ _ _ h => h) (Or.inl ⟨by rfl, ?_⟩) ?_ ?_
       rotate_left
       ·intro w'
        go_simp
        with_reducible rfl
       rotate_left
       ·simp only [Act.put, List.setIfInBounds_toArray, List.set_cons_zero, List.set_cons_succ, i64_w, i32_w]
        rfl
       refine take_ (i := 1) (N := some 20) (v := ?_) (a' := ?_) #[true, true, false, false, false, false] rfl rfl (by kernel_rfl) (fun _ _ _ h => h) (Or.inl ⟨by rfl, ?_⟩) hHeld ?_ ?_
       rotate_left
       ·rintro w' ⟨s0, s1⟩
        go_simp
        with_reducible rfl
       rotate_left
       ·simp only [Act.put, List.setIfInBounds_toArray, List.set_cons_zero, List.set_cons_succ, i64_w, i32_w]
        rfl
       refine take_ (i := 2) (N := some 21) (v := ?_) (a' := ?_) #[true, true, true, false, false, false] rfl rfl (by kernel_rfl) (fun _ _ _ h => h) (Or.inl ⟨by rfl, ?_⟩) hHeld ?_ ?_
       rotate_left
       ·rintro w' ⟨s0, s1⟩
        go_simp
        with_reducible rfl
       rotate_left
       ·simp only [Act.put, List.setIfInBounds_toArray, List.set_cons_zero, List.set_cons_succ, i64_w, i32_w]
        rfl
       refine one_ (i := 3) (N := none) #[true, true, true, true, false, false] rfl rfl (by kernel_rfl) (by decide) (fun K hK => ?_)
       have hs30 : w29.cell? ⟨gb260, 0, none⟩ = some (.int .i64 0) := (blk_cell BK260.out 0).trans rfl
       have hfs30 := blk_frozen BK260.out 0
       have hns30_1 := NB261_260.out
       have hns30_2 := NB262_260.out
       have hns30_3 := NB263_260.out
       have hns30_4 := NB264_260.out
       have hms30_1 := NB260_261.out
       have hms30_2 := NB260_262.out
       have hms30_3 := NB260_263.out
       have hms30_4 := NB260_264.out
       have hs31 : w29.cell? ⟨gb260, 1, none⟩ = some (.int .i64 0) := (blk_cell BK260.out 1).trans rfl
       have hfs31 := blk_frozen BK260.out 1
       have hns31_1 := NB261_260.out
       have hns31_2 := NB262_260.out
       have hns31_3 := NB263_260.out
       have hns31_4 := NB264_260.out
       have hms31_1 := NB260_261.out
       have hms31_2 := NB260_262.out
       have hms31_3 := NB260_263.out
       have hms31_4 := NB260_264.out
       refine skip_ (w1 := ?_) (by rfl) rfl ?_ ?_
       rotate_left
       ·go_simp
        rfl
       refine hK.out _ _ ⟨((cell_far (p := ⟨gb260, _, none⟩) NB263_260.out _).trans (((cell_far (p := ⟨gb260, _, none⟩) NB263_260.out _).trans (hHeld.1)))), ((cell_far (p := ⟨gb260, _, none⟩) NB263_260.out _).trans (((cell_far (p := ⟨gb260, _, none⟩) NB263_260.out _).trans (hHeld.2))))⟩ (fun hHeld => ?_)
       clear hK K
       refine one_ (i := 4) (N := none) #[true, true, true, true, true, false] rfl rfl (by kernel_rfl) (by decide) (fun K hK => ?_)
       have hs32 : w29.cell? ⟨gb261, 0, none⟩ = some (.int .i64 0) := (blk_cell BK261.out 0).trans rfl
       have hfs32 := blk_frozen BK261.out 0
       have hns32_0 := NB260_261.out
       have hns32_2 := NB262_261.out
       have hns32_3 := NB263_261.out
       have hns32_4 := NB264_261.out
       have hms32_0 := NB261_260.out
       have hms32_2 := NB261_262.out
       have hms32_3 := NB261_263.out
       have hms32_4 := NB261_264.out
       have hs33 : w29.cell? ⟨gb261, 1, none⟩ = some (.int .i64 0) := (blk_cell BK261.out 1).trans rfl
       have hfs33 := blk_frozen BK261.out 1
       have hns33_0 := NB260_261.out
       have hns33_2 := NB262_261.out
       have hns33_3 := NB263_261.out
       have hns33_4 := NB264_261.out
       have hms33_0 := NB261_260.out
       have hms33_2 := NB261_262.out
       have hms33_3 := NB261_263.out
       have hms33_4 := NB261_264.out
       refine skip_ (w1 := ?_) (by rfl) rfl ?_ ?_
       rotate_left
       ·go_simp
        rfl
       refine hK.out _ _ ⟨((cell_far (p := ⟨gb261, _, none⟩) NB263_261.out _).trans (((cell_far (p := ⟨gb261, _, none⟩) NB263_261.out _).trans (hHeld.1)))), ((cell_far (p := ⟨gb261, _, none⟩) NB263_261.out _).trans (((cell_far (p := ⟨gb261, _, none⟩) NB263_261.out _).trans (hHeld.2))))⟩ (fun hHeld => ?_)
       clear hK K
       refine one_ (i := 5) (N := none) #[true, true, true, true, true, true] rfl rfl (by kernel_rfl) (by decide) (fun K hK => ?_)
       have hs34 : w29.cell? ⟨gb262, 0, none⟩ = some (.int .i64 0) := (blk_cell BK262.out 0).trans rfl
       have hfs34 := blk_frozen BK262.out 0
       have hns34_0 := NB260_262.out
       have hns34_1 := NB261_262.out
       have hns34_3 := NB263_262.out
       have hns34_4 := NB264_262.out
       have hms34_0 := NB262_260.out
       have hms34_1 := NB262_261.out
       have hms34_3 := NB262_263.out
       have hms34_4 := NB262_264.out
       have hs35 : w29.cell? ⟨gb262, 1, none⟩ = some (.int .i64 0) := (blk_cell BK262.out 1).trans rfl
       have hfs35 := blk_frozen BK262.out 1
       have hns35_0 := NB260_262.out
       have hns35_1 := NB261_262.out
       have hns35_3 := NB263_262.out
       have hns35_4 := NB264_262.out
       have hms35_0 := NB262_260.out
       have hms35_1 := NB262_261.out
       have hms35_3 := NB262_263.out
       have hms35_4 := NB262_264.out
       refine skip_ (w1 := ?_) (by rfl) rfl ?_ ?_
       rotate_left
       ·go_simp
        rfl
       refine hK.out _ _ ⟨((cell_far (p := ⟨gb262, _, none⟩) NB263_262.out _).trans (((cell_far (p := ⟨gb262, _, none⟩) NB263_262.out _).trans (hHeld.1)))), ((cell_far (p := ⟨gb262, _, none⟩) NB263_262.out _).trans (((cell_far (p := ⟨gb262, _, none⟩) NB263_262.out _).trans (hHeld.2))))⟩ (fun hHeld => ?_)
       clear hK K
       refine done_ (by kernel_rfl) ?_
       try go_wp2
       refine bodyPost_ret (results_list (rs := [.cell 2 75, .cell 3 75, .cell 4 75]) rfl (by simp) (.cell gb260 75 #[.int .i64 1, .int .i64 125] (0, 0) _ rfl (by (with_reducible repeat (first | refine blk_drewN ?_ _ | refine blk_drew ?_ | refine blk_alloc ?_ _)); refine blk_far ?_ NB260_262.out _; (with_reducible repeat (first | refine blk_drewN ?_ _ | refine blk_drew ?_ | refine blk_alloc ?_ _)); refine blk_far ?_ NB260_262.out _; (with_reducible repeat (first | refine blk_drewN ?_ _ | refine blk_drew ?_ | refine blk_alloc ?_ _)); refine blk_far ?_ NB260_261.out _; (with_reducible repeat (first | refine blk_drewN ?_ _ | refine blk_drew ?_ | refine blk_alloc ?_ _)); refine blk_far ?_ NB260_261.out _; (with_reducible repeat (first | refine blk_drewN ?_ _ | refine blk_drew ?_ | refine blk_alloc ?_ _)); refine blk_put (cs := #[.int .i64 1, .int .i64 0]) ?_ 1 _ rfl; (with_reducible repeat (first | refine blk_drewN ?_ _ | refine blk_drew ?_ | refine blk_alloc ?_ _)); refine blk_put (cs := #[.int .i64 0, .int .i64 0]) ?_ 0 _ rfl; (with_reducible repeat (first | refine blk_drewN ?_ _ | refine blk_drew ?_ | refine blk_alloc ?_ _)); exact BK260.out) Try.underlying75 rfl (by kernel_rfl) (.cell gb261 75 #[.int .i64 0, .int .i64 0] (0, 0) _ rfl (by (with_reducible repeat (first | refine blk_drewN ?_ _ | refine blk_drew ?_ | refine blk_alloc ?_ _)); refine blk_far ?_ NB261_262.out _; (with_reducible repeat (first | refine blk_drewN ?_ _ | refine blk_drew ?_ | refine blk_alloc ?_ _)); refine blk_far ?_ NB261_262.out _; (with_reducible repeat (first | refine blk_drewN ?_ _ | refine blk_drew ?_ | refine blk_alloc ?_ _)); refine blk_put (cs := #[.int .i64 0, .int .i64 0]) ?_ 1 _ rfl; (with_reducible repeat (first | refine blk_drewN ?_ _ | refine blk_drew ?_ | refine blk_alloc ?_ _)); refine blk_put (cs := #[.int .i64 0, .int .i64 0]) ?_ 0 _ rfl; (with_reducible repeat (first | refine blk_drewN ?_ _ | refine blk_drew ?_ | refine blk_alloc ?_ _)); refine blk_far ?_ NB261_260.out _; (with_reducible repeat (first | refine blk_drewN ?_ _ | refine blk_drew ?_ | refine blk_alloc ?_ _)); refine blk_far ?_ NB261_260.out _; (with_reducible repeat (first | refine blk_drewN ?_ _ | refine blk_drew ?_ | refine blk_alloc ?_ _)); exact BK261.out) Try.underlying75 rfl (by kernel_rfl) (.cell gb262 75 #[.int .i64 0, .int .i64 0] (0, 0) _ rfl (by (with_reducible repeat (first | refine blk_drewN ?_ _ | refine blk_drew ?_ | refine blk_alloc ?_ _)); refine blk_put (cs := #[.int .i64 0, .int .i64 0]) ?_ 1 _ rfl; (with_reducible repeat (first | refine blk_drewN ?_ _ | refine blk_drew ?_ | refine blk_alloc ?_ _)); refine blk_put (cs := #[.int .i64 0, .int .i64 0]) ?_ 0 _ rfl; (with_reducible repeat (first | refine blk_drewN ?_ _ | refine blk_drew ?_ | refine blk_alloc ?_ _)); refine blk_far ?_ NB262_261.out _; (with_reducible repeat (first | refine blk_drewN ?_ _ | refine blk_drew ?_ | refine blk_alloc ?_ _)); refine blk_far ?_ NB262_261.out _; (with_reducible repeat (first | refine blk_drewN ?_ _ | refine blk_drew ?_ | refine blk_alloc ?_ _)); refine blk_far ?_ NB262_260.out _; (with_reducible repeat (first | refine blk_drewN ?_ _ | refine blk_drew ?_ | refine blk_alloc ?_ _)); refine blk_far ?_ NB262_260.out _; (with_reducible repeat (first | refine blk_drewN ?_ _ | refine blk_drew ?_ | refine blk_alloc ?_ _)); exact BK262.out) Try.underlying75 rfl (by kernel_rfl) .nil)))) rfl ?_
       exact ⟨by first | rfl | (simp [errW_none, errW_some] <;> rfl) | (simp [*, errW_none, errW_some] <;> rfl), bS HB.out⟩
      ·replace c28 := Bool.eq_false_iff.mpr c28
       subst c28
       have H1 : (if a0 = 5 then (some (0, 0, 0, 0, 1, 1)) else (if a0 = 6 then (some (0, 0, 1, 1, 0, 0)) else (if a0 = 15 then (some (0, 0, 0, 0, 1, 1968)) else (if a0 = 16 then (some (0, 0, 1, 123, 0, 0)) else (if a0 = 22 then (some (0, 0, 2, 2, 0, 0)) else (some (1, 125, 1, 121, 0, 0))))))) = some (r1, r2, r3, r4, r5, r6) := by rw [if_neg (show ¬ (false = true) by decide)] at H; exact H
       clear H
       have H := H1
       clear H1
       by_cases c36 : a0 = 5
       ·rw [if_pos c36] at H
        have c36b0 : (a0 == 5) = true := beq_iff_eq.mpr c36
        have c36b1 : (a0 != 5) = false := bne_eq_false_iff_eq.mpr c36
        clear c36
        simp only [Option.some.injEq, Prod.mk.injEq] at H
        obtain ⟨rfl, rfl, rfl, rfl, rfl, rfl⟩ := H
        try go_wp2
        have n0_ := aM (blk_drew BK260.out)
        have n1_ := aM (blk_drew BK261.out)
        have n2_ := aM (blk_drew BK262.out)
        have n3_ := aM (blk_drew BK263.out)
        have n4_ := aM (blk_drew BK264.out)
        have n5_ := aM (below_drew1 HB.out)
        clear BK260
        clear BK261
        clear BK262
        clear BK263
        clear BK264
        clear HB
        have BK260 := n0_
        have BK261 := n1_
        have BK262 := n2_
        have BK263 := n3_
        have BK264 := n4_
        have HB := n5_
        clear n0_ n1_ n2_ n3_ n4_ n5_
        refine start_ (n := 6) (S := fun w' => w'.cell? ⟨gb263, 0, none⟩ = some (.int .i64 0) ∧ w'.cell? ⟨gb263, 1, none⟩ = some (.int .i64 0) ∧ w'.cell? ⟨gb264, 0, none⟩ = some (.int .i64 1) ∧ w'.cell? ⟨gb264, 1, none⟩ = some (.int .i64 1)) (ds := []) #[false, false, false, false, false, false] (by kernel_rfl) rfl rfl ⟨(blk_cell BK263.out 0).trans rfl, (blk_cell BK263.out 1).trans rfl, (blk_cell BK264.out 0).trans rfl, (blk_cell BK264.out 1).trans rfl⟩ (fun hHeld => ?_)
        generalize wc.drew = w37 at BK260 BK261 BK262 BK263 BK264 HB hHeld ⊢
        refine take_ (i := 0) (N := some 24) (v := ?_) (a' := ?_) #[true, false, false, false, false, false] rfl rfl (by kernel_rfl) (fun _ _ _ h => h) (Or.inl ⟨by rfl, ?_⟩) hHeld ?_ ?_
        rotate_left
        ·rintro w' ⟨s0, s1, s2, s3⟩
         go_simp
         with_reducible rfl
        rotate_left
        ·simp only [Act.put, List.setIfInBounds_toArray, List.set_cons_zero, List.set_cons_succ, i64_w, i32_w]
         rfl
        refine take_ (i := 1) (N := some 25) (v := ?_) (a' := ?_) #[true, true, false, false, false, false] rfl rfl (by kernel_rfl) (fun _ _ _ h => h) (Or.inl ⟨by rfl, ?_⟩) hHeld ?_ ?_
        rotate_left
        ·rintro w' ⟨s0, s1, s2, s3⟩
         go_simp
         with_reducible rfl
        rotate_left
        ·simp only [Act.put, List.setIfInBounds_toArray, List.set_cons_zero, List.set_cons_succ, i64_w, i32_w]
         rfl
        refine take_ (i := 2) (N := some 26) (v := ?_) (a' := ?_) #[true, true, true, false, false, false] rfl rfl (by kernel_rfl) (fun _ _ _ h => h) (Or.inl ⟨by rfl, ?_⟩) hHeld ?_ ?_
        rotate_left
        ·rintro w' ⟨s0, s1, s2, s3⟩
         go_simp
         with_reducible rfl
        rotate_left
        ·simp only [Act.put, List.setIfInBounds_toArray, List.set_cons_zero, List.set_cons_succ, i64_w, i32_w]
         rfl
        refine one_ (i := 3) (N := none) #[true, true, true, true, false, false] rfl rfl (by kernel_rfl) (by decide) (fun K hK => ?_)
        have hs38 : w37.cell? ⟨gb260, 0, none⟩ = some (.int .i64 0) := (blk_cell BK260.out 0).trans rfl
        have hfs38 := blk_frozen BK260.out 0
        have hns38_1 := NB261_260.out
        have hns38_2 := NB262_260.out
        have hns38_3 := NB263_260.out
        have hns38_4 := NB264_260.out
        have hms38_1 := NB260_261.out
        have hms38_2 := NB260_262.out
        have hms38_3 := NB260_263.out
        have hms38_4 := NB260_264.out
        have hs39 : w37.cell? ⟨gb260, 1, none⟩ = some (.int .i64 0) := (blk_cell BK260.out 1).trans rfl
        have hfs39 := blk_frozen BK260.out 1
        have hns39_1 := NB261_260.out
        have hns39_2 := NB262_260.out
        have hns39_3 := NB263_260.out
        have hns39_4 := NB264_260.out
        have hms39_1 := NB260_261.out
        have hms39_2 := NB260_262.out
        have hms39_3 := NB260_263.out
        have hms39_4 := NB260_264.out
        refine skip_ (w1 := ?_) (by rfl) rfl ?_ ?_
        rotate_left
        ·go_simp
         rfl
        refine hK.out _ _ ⟨((cell_far (p := ⟨gb260, _, none⟩) NB263_260.out _).trans (((cell_far (p := ⟨gb260, _, none⟩) NB263_260.out _).trans (hHeld.1)))), ((cell_far (p := ⟨gb260, _, none⟩) NB263_260.out _).trans (((cell_far (p := ⟨gb260, _, none⟩) NB263_260.out _).trans (hHeld.2.1)))), ((cell_far (p := ⟨gb260, _, none⟩) NB264_260.out _).trans (((cell_far (p := ⟨gb260, _, none⟩) NB264_260.out _).trans (hHeld.2.2.1)))), ((cell_far (p := ⟨gb260, _, none⟩) NB264_260.out _).trans (((cell_far (p := ⟨gb260, _, none⟩) NB264_260.out _).trans (hHeld.2.2.2))))⟩ (fun hHeld => ?_)
        clear hK K
        refine one_ (i := 4) (N := none) #[true, true, true, true, true, false] rfl rfl (by kernel_rfl) (by decide) (fun K hK => ?_)
        have hs40 : w37.cell? ⟨gb261, 0, none⟩ = some (.int .i64 0) := (blk_cell BK261.out 0).trans rfl
        have hfs40 := blk_frozen BK261.out 0
        have hns40_0 := NB260_261.out
        have hns40_2 := NB262_261.out
        have hns40_3 := NB263_261.out
        have hns40_4 := NB264_261.out
        have hms40_0 := NB261_260.out
        have hms40_2 := NB261_262.out
        have hms40_3 := NB261_263.out
        have hms40_4 := NB261_264.out
        have hs41 : w37.cell? ⟨gb261, 1, none⟩ = some (.int .i64 0) := (blk_cell BK261.out 1).trans rfl
        have hfs41 := blk_frozen BK261.out 1
        have hns41_0 := NB260_261.out
        have hns41_2 := NB262_261.out
        have hns41_3 := NB263_261.out
        have hns41_4 := NB264_261.out
        have hms41_0 := NB261_260.out
        have hms41_2 := NB261_262.out
        have hms41_3 := NB261_263.out
        have hms41_4 := NB261_264.out
        refine skip_ (w1 := ?_) (by rfl) rfl ?_ ?_
        rotate_left
        ·go_simp
         rfl
        refine hK.out _ _ ⟨((cell_far (p := ⟨gb261, _, none⟩) NB263_261.out _).trans (((cell_far (p := ⟨gb261, _, none⟩) NB263_261.out _).trans (hHeld.1)))), ((cell_far (p := ⟨gb261, _, none⟩) NB263_261.out _).trans (((cell_far (p := ⟨gb261, _, none⟩) NB263_261.out _).trans (hHeld.2.1)))), ((cell_far (p := ⟨gb261, _, none⟩) NB264_261.out _).trans (((cell_far (p := ⟨gb261, _, none⟩) NB264_261.out _).trans (hHeld.2.2.1)))), ((cell_far (p := ⟨gb261, _, none⟩) NB264_261.out _).trans (((cell_far (p := ⟨gb261, _, none⟩) NB264_261.out _).trans (hHeld.2.2.2))))⟩ (fun hHeld => ?_)
        clear hK K
        refine one_ (i := 5) (N := none) #[true, true, true, true, true, true] rfl rfl (by kernel_rfl) (by decide) (fun K hK => ?_)
        have hs42 : w37.cell? ⟨gb262, 0, none⟩ = some (.int .i64 0) := (blk_cell BK262.out 0).trans rfl
        have hfs42 := blk_frozen BK262.out 0
        have hns42_0 := NB260_262.out
        have hns42_1 := NB261_262.out
        have hns42_3 := NB263_262.out
        have hns42_4 := NB264_262.out
        have hms42_0 := NB262_260.out
        have hms42_1 := NB262_261.out
        have hms42_3 := NB262_263.out
        have hms42_4 := NB262_264.out
        have hs43 : w37.cell? ⟨gb262, 1, none⟩ = some (.int .i64 0) := (blk_cell BK262.out 1).trans rfl
        have hfs43 := blk_frozen BK262.out 1
        have hns43_0 := NB260_262.out
        have hns43_1 := NB261_262.out
        have hns43_3 := NB263_262.out
        have hns43_4 := NB264_262.out
        have hms43_0 := NB262_260.out
        have hms43_1 := NB262_261.out
        have hms43_3 := NB262_263.out
        have hms43_4 := NB262_264.out
        refine skip_ (w1 := ?_) (by rfl) rfl ?_ ?_
        rotate_left
        ·go_simp
         rfl
        refine hK.out _ _ ⟨((cell_far (p := ⟨gb262, _, none⟩) NB263_262.out _).trans (((cell_far (p := ⟨gb262, _, none⟩) NB263_262.out _).trans (hHeld.1)))), ((cell_far (p := ⟨gb262, _, none⟩) NB263_262.out _).trans (((cell_far (p := ⟨gb262, _, none⟩) NB263_262.out _).trans (hHeld.2.1)))), ((cell_far (p := ⟨gb262, _, none⟩) NB264_262.out _).trans (((cell_far (p := ⟨gb262, _, none⟩) NB264_262.out _).trans (hHeld.2.2.1)))), ((cell_far (p := ⟨gb262, _, none⟩) NB264_262.out _).trans (((cell_far (p := ⟨gb262, _, none⟩) NB264_262.out _).trans (hHeld.2.2.2))))⟩ (fun hHeld => ?_)
        clear hK K
        refine done_ (by kernel_rfl) ?_
        try go_wp2
        refine bodyPost_ret (results_list (rs := [.cell 2 75, .cell 3 75, .cell 4 75]) rfl (by simp) (.cell gb260 75 #[.int .i64 0, .int .i64 0] (0, 0) _ rfl (by (with_reducible repeat (first | refine blk_drewN ?_ _ | refine blk_drew ?_ | refine blk_alloc ?_ _)); refine blk_far ?_ NB260_262.out _; (with_reducible repeat (first | refine blk_drewN ?_ _ | refine blk_drew ?_ | refine blk_alloc ?_ _)); refine blk_far ?_ NB260_262.out _; (with_reducible repeat (first | refine blk_drewN ?_ _ | refine blk_drew ?_ | refine blk_alloc ?_ _)); refine blk_far ?_ NB260_261.out _; (with_reducible repeat (first | refine blk_drewN ?_ _ | refine blk_drew ?_ | refine blk_alloc ?_ _)); refine blk_far ?_ NB260_261.out _; (with_reducible repeat (first | refine blk_drewN ?_ _ | refine blk_drew ?_ | refine blk_alloc ?_ _)); refine blk_put (cs := #[.int .i64 0, .int .i64 0]) ?_ 1 _ rfl; (with_reducible repeat (first | refine blk_drewN ?_ _ | refine blk_drew ?_ | refine blk_alloc ?_ _)); refine blk_put (cs := #[.int .i64 0, .int .i64 0]) ?_ 0 _ rfl; (with_reducible repeat (first | refine blk_drewN ?_ _ | refine blk_drew ?_ | refine blk_alloc ?_ _)); exact BK260.out) Try.underlying75 rfl (by kernel_rfl) (.cell gb261 75 #[.int .i64 0, .int .i64 0] (0, 0) _ rfl (by (with_reducible repeat (first | refine blk_drewN ?_ _ | refine blk_drew ?_ | refine blk_alloc ?_ _)); refine blk_far ?_ NB261_262.out _; (with_reducible repeat (first | refine blk_drewN ?_ _ | refine blk_drew ?_ | refine blk_alloc ?_ _)); refine blk_far ?_ NB261_262.out _; (with_reducible repeat (first | refine blk_drewN ?_ _ | refine blk_drew ?_ | refine blk_alloc ?_ _)); refine blk_put (cs := #[.int .i64 0, .int .i64 0]) ?_ 1 _ rfl; (with_reducible repeat (first | refine blk_drewN ?_ _ | refine blk_drew ?_ | refine blk_alloc ?_ _)); refine blk_put (cs := #[.int .i64 0, .int .i64 0]) ?_ 0 _ rfl; (with_reducible repeat (first | refine blk_drewN ?_ _ | refine blk_drew ?_ | refine blk_alloc ?_ _)); refine blk_far ?_ NB261_260.out _; (with_reducible repeat (first | refine blk_drewN ?_ _ | refine blk_drew ?_ | refine blk_alloc ?_ _)); refine blk_far ?_ NB261_260.out _; (with_reducible repeat (first | refine blk_drewN ?_ _ | refine blk_drew ?_ | refine blk_alloc ?_ _)); exact BK261.out) Try.underlying75 rfl (by kernel_rfl) (.cell gb262 75 #[.int .i64 1, .int .i64 1] (0, 0) _ rfl (by (with_reducible repeat (first | refine blk_drewN ?_ _ | refine blk_drew ?_ | refine blk_alloc ?_ _)); refine blk_put (cs := #[.int .i64 1, .int .i64 0]) ?_ 1 _ rfl; (with_reducible repeat (first | refine blk_drewN ?_ _ | refine blk_drew ?_ | refine blk_alloc ?_ _)); refine blk_put (cs := #[.int .i64 0, .int .i64 0]) ?_ 0 _ rfl; (with_reducible repeat (first | refine blk_drewN ?_ _ | refine blk_drew ?_ | refine blk_alloc ?_ _)); refine blk_far ?_ NB262_261.out _; (with_reducible repeat (first | refine blk_drewN ?_ _ | refine blk_drew ?_ | refine blk_alloc ?_ _)); refine blk_far ?_ NB262_261.out _; (with_reducible repeat (first | refine blk_drewN ?_ _ | refine blk_drew ?_ | refine blk_alloc ?_ _)); refine blk_far ?_ NB262_260.out _; (with_reducible repeat (first | refine blk_drewN ?_ _ | refine blk_drew ?_ | refine blk_alloc ?_ _)); refine blk_far ?_ NB262_260.out _; (with_reducible repeat (first | refine blk_drewN ?_ _ | refine blk_drew ?_ | refine blk_alloc ?_ _)); exact BK262.out) Try.underlying75 rfl (by kernel_rfl) .nil)))) rfl ?_
        exact ⟨by first | rfl | (simp [errW_none, errW_some] <;> rfl) | (simp [*, errW_none, errW_some] <;> rfl), bS HB.out⟩
       ·rw [if_neg c36] at H
        have c36b0 : (a0 == 5) = false := beq_eq_false_iff_ne.mpr c36
        have c36b1 : (a0 != 5) = true := bne_iff_ne.mpr c36
        by_cases c44 : a0 = 6
        ·rw [if_pos c44] at H
         have c44b0 : (a0 == 6) = true := beq_iff_eq.mpr c44
         have c44b1 : (a0 != 6) = false := bne_eq_false_iff_eq.mpr c44
         clear c44
         simp only [Option.some.injEq, Prod.mk.injEq] at H
         obtain ⟨rfl, rfl, rfl, rfl, rfl, rfl⟩ := H
         try go_wp2
         have n0_ := aM (blk_drew BK260.out)
         have n1_ := aM (blk_drew BK261.out)
         have n2_ := aM (blk_drew BK262.out)
         have n3_ := aM (blk_drew BK263.out)
         have n4_ := aM (blk_drew BK264.out)
         have n5_ := aM (below_drew1 HB.out)
         clear BK260
         clear BK261
         clear BK262
         clear BK263
         clear BK264
         clear HB
         have BK260 := n0_
         have BK261 := n1_
         have BK262 := n2_
         have BK263 := n3_
         have BK264 := n4_
         have HB := n5_
         clear n0_ n1_ n2_ n3_ n4_ n5_
         refine start_ (n := 6) (S := fun w' => w'.cell? ⟨gb263, 0, none⟩ = some (.int .i64 0) ∧ w'.cell? ⟨gb263, 1, none⟩ = some (.int .i64 0) ∧ w'.cell? ⟨gb264, 0, none⟩ = some (.int .i64 1) ∧ w'.cell? ⟨gb264, 1, none⟩ = some (.int .i64 1)) (ds := []) #[false, false, false, false, false, false] (by kernel_rfl) rfl rfl ⟨(blk_cell BK263.out 0).trans rfl, (blk_cell BK263.out 1).trans rfl, (blk_cell BK264.out 0).trans rfl, (blk_cell BK264.out 1).trans rfl⟩ (fun hHeld => ?_)
         generalize wc.drew = w45 at BK260 BK261 BK262 BK263 BK264 HB hHeld ⊢
         refine take_ (i := 0) (N := some 29) (v := ?_) (a' := ?_) #[true, false, false, false, false, false] rfl rfl (by kernel_rfl) (fun _ _ _ h => h) (Or.inl ⟨by rfl, ?_⟩) hHeld ?_ ?_
         rotate_left
         ·rintro w' ⟨s0, s1, s2, s3⟩
          go_simp
          with_reducible rfl
         rotate_left
         ·simp only [Act.put, List.setIfInBounds_toArray, List.set_cons_zero, List.set_cons_succ, i64_w, i32_w]
          rfl
         refine take_ (i := 1) (N := some 30) (v := ?_) (a' := ?_) #[true, true, false, false, false, false] rfl rfl (by kernel_rfl) (fun _ _ _ h => h) (Or.inl ⟨by rfl, ?_⟩) hHeld ?_ ?_
         rotate_left
         ·rintro w' ⟨s0, s1, s2, s3⟩
          go_simp
          with_reducible rfl
         rotate_left
         ·simp only [Act.put, List.setIfInBounds_toArray, List.set_cons_zero, List.set_cons_succ, i64_w, i32_w]
          rfl
         refine take_ (i := 2) (N := some 31) (v := ?_) (a' := ?_) #[true, true, true, false, false, false] rfl rfl (by kernel_rfl) (fun _ _ _ h => h) (Or.inl ⟨by rfl, ?_⟩) hHeld ?_ ?_
         rotate_left
         ·rintro w' ⟨s0, s1, s2, s3⟩
          go_simp
          with_reducible rfl
         rotate_left
         ·simp only [Act.put, List.setIfInBounds_toArray, List.set_cons_zero, List.set_cons_succ, i64_w, i32_w]
          rfl
         refine one_ (i := 3) (N := none) #[true, true, true, true, false, false] rfl rfl (by kernel_rfl) (by decide) (fun K hK => ?_)
         have hs46 : w45.cell? ⟨gb260, 0, none⟩ = some (.int .i64 0) := (blk_cell BK260.out 0).trans rfl
         have hfs46 := blk_frozen BK260.out 0
         have hns46_1 := NB261_260.out
         have hns46_2 := NB262_260.out
         have hns46_3 := NB263_260.out
         have hns46_4 := NB264_260.out
         have hms46_1 := NB260_261.out
         have hms46_2 := NB260_262.out
         have hms46_3 := NB260_263.out
         have hms46_4 := NB260_264.out
         have hs47 : w45.cell? ⟨gb260, 1, none⟩ = some (.int .i64 0) := (blk_cell BK260.out 1).trans rfl
         have hfs47 := blk_frozen BK260.out 1
         have hns47_1 := NB261_260.out
         have hns47_2 := NB262_260.out
         have hns47_3 := NB263_260.out
         have hns47_4 := NB264_260.out
         have hms47_1 := NB260_261.out
         have hms47_2 := NB260_262.out
         have hms47_3 := NB260_263.out
         have hms47_4 := NB260_264.out
         refine skip_ (w1 := ?_) (by rfl) rfl ?_ ?_
         rotate_left
         ·go_simp
          rfl
         refine hK.out _ _ ⟨((cell_far (p := ⟨gb260, _, none⟩) NB263_260.out _).trans (((cell_far (p := ⟨gb260, _, none⟩) NB263_260.out _).trans (hHeld.1)))), ((cell_far (p := ⟨gb260, _, none⟩) NB263_260.out _).trans (((cell_far (p := ⟨gb260, _, none⟩) NB263_260.out _).trans (hHeld.2.1)))), ((cell_far (p := ⟨gb260, _, none⟩) NB264_260.out _).trans (((cell_far (p := ⟨gb260, _, none⟩) NB264_260.out _).trans (hHeld.2.2.1)))), ((cell_far (p := ⟨gb260, _, none⟩) NB264_260.out _).trans (((cell_far (p := ⟨gb260, _, none⟩) NB264_260.out _).trans (hHeld.2.2.2))))⟩ (fun hHeld => ?_)
         clear hK K
         refine one_ (i := 4) (N := none) #[true, true, true, true, true, false] rfl rfl (by kernel_rfl) (by decide) (fun K hK => ?_)
         have hs48 : w45.cell? ⟨gb261, 0, none⟩ = some (.int .i64 0) := (blk_cell BK261.out 0).trans rfl
         have hfs48 := blk_frozen BK261.out 0
         have hns48_0 := NB260_261.out
         have hns48_2 := NB262_261.out
         have hns48_3 := NB263_261.out
         have hns48_4 := NB264_261.out
         have hms48_0 := NB261_260.out
         have hms48_2 := NB261_262.out
         have hms48_3 := NB261_263.out
         have hms48_4 := NB261_264.out
         have hs49 : w45.cell? ⟨gb261, 1, none⟩ = some (.int .i64 0) := (blk_cell BK261.out 1).trans rfl
         have hfs49 := blk_frozen BK261.out 1
         have hns49_0 := NB260_261.out
         have hns49_2 := NB262_261.out
         have hns49_3 := NB263_261.out
         have hns49_4 := NB264_261.out
         have hms49_0 := NB261_260.out
         have hms49_2 := NB261_262.out
         have hms49_3 := NB261_263.out
         have hms49_4 := NB261_264.out
         refine skip_ (w1 := ?_) (by rfl) rfl ?_ ?_
         rotate_left
         ·go_simp
          rfl
         refine hK.out _ _ ⟨((cell_far (p := ⟨gb261, _, none⟩) NB263_261.out _).trans (((cell_far (p := ⟨gb261, _, none⟩) NB263_261.out _).trans (hHeld.1)))), ((cell_far (p := ⟨gb261, _, none⟩) NB263_261.out _).trans (((cell_far (p := ⟨gb261, _, none⟩) NB263_261.out _).trans (hHeld.2.1)))), ((cell_far (p := ⟨gb261, _, none⟩) NB264_261.out _).trans (((cell_far (p := ⟨gb261, _, none⟩) NB264_261.out _).trans (hHeld.2.2.1)))), ((cell_far (p := ⟨gb261, _, none⟩) NB264_261.out _).trans (((cell_far (p := ⟨gb261, _, none⟩) NB264_261.out _).trans (hHeld.2.2.2))))⟩ (fun hHeld => ?_)
         clear hK K
         refine one_ (i := 5) (N := none) #[true, true, true, true, true, true] rfl rfl (by kernel_rfl) (by decide) (fun K hK => ?_)
         have hs50 : w45.cell? ⟨gb262, 0, none⟩ = some (.int .i64 0) := (blk_cell BK262.out 0).trans rfl
         have hfs50 := blk_frozen BK262.out 0
         have hns50_0 := NB260_262.out
         have hns50_1 := NB261_262.out
         have hns50_3 := NB263_262.out
         have hns50_4 := NB264_262.out
         have hms50_0 := NB262_260.out
         have hms50_1 := NB262_261.out
         have hms50_3 := NB262_263.out
         have hms50_4 := NB262_264.out
         have hs51 : w45.cell? ⟨gb262, 1, none⟩ = some (.int .i64 0) := (blk_cell BK262.out 1).trans rfl
         have hfs51 := blk_frozen BK262.out 1
         have hns51_0 := NB260_262.out
         have hns51_1 := NB261_262.out
         have hns51_3 := NB263_262.out
         have hns51_4 := NB264_262.out
         have hms51_0 := NB262_260.out
         have hms51_1 := NB262_261.out
         have hms51_3 := NB262_263.out
         have hms51_4 := NB262_264.out
         refine skip_ (w1 := ?_) (by rfl) rfl ?_ ?_
         rotate_left
         ·go_simp
          rfl
         refine hK.out _ _ ⟨((cell_far (p := ⟨gb262, _, none⟩) NB263_262.out _).trans (((cell_far (p := ⟨gb262, _, none⟩) NB263_262.out _).trans (hHeld.1)))), ((cell_far (p := ⟨gb262, _, none⟩) NB263_262.out _).trans (((cell_far (p := ⟨gb262, _, none⟩) NB263_262.out _).trans (hHeld.2.1)))), ((cell_far (p := ⟨gb262, _, none⟩) NB264_262.out _).trans (((cell_far (p := ⟨gb262, _, none⟩) NB264_262.out _).trans (hHeld.2.2.1)))), ((cell_far (p := ⟨gb262, _, none⟩) NB264_262.out _).trans (((cell_far (p := ⟨gb262, _, none⟩) NB264_262.out _).trans (hHeld.2.2.2))))⟩ (fun hHeld => ?_)
         clear hK K
         refine done_ (by kernel_rfl) ?_
         try go_wp2
         refine bodyPost_ret (results_list (rs := [.cell 2 75, .cell 3 75, .cell 4 75]) rfl (by simp) (.cell gb260 75 #[.int .i64 0, .int .i64 0] (0, 0) _ rfl (by (with_reducible repeat (first | refine blk_drewN ?_ _ | refine blk_drew ?_ | refine blk_alloc ?_ _)); refine blk_far ?_ NB260_262.out _; (with_reducible repeat (first | refine blk_drewN ?_ _ | refine blk_drew ?_ | refine blk_alloc ?_ _)); refine blk_far ?_ NB260_262.out _; (with_reducible repeat (first | refine blk_drewN ?_ _ | refine blk_drew ?_ | refine blk_alloc ?_ _)); refine blk_far ?_ NB260_261.out _; (with_reducible repeat (first | refine blk_drewN ?_ _ | refine blk_drew ?_ | refine blk_alloc ?_ _)); refine blk_far ?_ NB260_261.out _; (with_reducible repeat (first | refine blk_drewN ?_ _ | refine blk_drew ?_ | refine blk_alloc ?_ _)); refine blk_put (cs := #[.int .i64 0, .int .i64 0]) ?_ 1 _ rfl; (with_reducible repeat (first | refine blk_drewN ?_ _ | refine blk_drew ?_ | refine blk_alloc ?_ _)); refine blk_put (cs := #[.int .i64 0, .int .i64 0]) ?_ 0 _ rfl; (with_reducible repeat (first | refine blk_drewN ?_ _ | refine blk_drew ?_ | refine blk_alloc ?_ _)); exact BK260.out) Try.underlying75 rfl (by kernel_rfl) (.cell gb261 75 #[.int .i64 1, .int .i64 1] (0, 0) _ rfl (by (with_reducible repeat (first | refine blk_drewN ?_ _ | refine blk_drew ?_ | refine blk_alloc ?_ _)); refine blk_far ?_ NB261_262.out _; (with_reducible repeat (first | refine blk_drewN ?_ _ | refine blk_drew ?_ | refine blk_alloc ?_ _)); refine blk_far ?_ NB261_262.out _; (with_reducible repeat (first | refine blk_drewN ?_ _ | refine blk_drew ?_ | refine blk_alloc ?_ _)); refine blk_put (cs := #[.int .i64 1, .int .i64 0]) ?_ 1 _ rfl; (with_reducible repeat (first | refine blk_drewN ?_ _ | refine blk_drew ?_ | refine blk_alloc ?_ _)); refine blk_put (cs := #[.int .i64 0, .int .i64 0]) ?_ 0 _ rfl; (with_reducible repeat (first | refine blk_drewN ?_ _ | refine blk_drew ?_ | refine blk_alloc ?_ _)); refine blk_far ?_ NB261_260.out _; (with_reducible repeat (first | refine blk_drewN ?_ _ | refine blk_drew ?_ | refine blk_alloc ?_ _)); refine blk_far ?_ NB261_260.out _; (with_reducible repeat (first | refine blk_drewN ?_ _ | refine blk_drew ?_ | refine blk_alloc ?_ _)); exact BK261.out) Try.underlying75 rfl (by kernel_rfl) (.cell gb262 75 #[.int .i64 0, .int .i64 0] (0, 0) _ rfl (by (with_reducible repeat (first | refine blk_drewN ?_ _ | refine blk_drew ?_ | refine blk_alloc ?_ _)); refine blk_put (cs := #[.int .i64 0, .int .i64 0]) ?_ 1 _ rfl; (with_reducible repeat (first | refine blk_drewN ?_ _ | refine blk_drew ?_ | refine blk_alloc ?_ _)); refine blk_put (cs := #[.int .i64 0, .int .i64 0]) ?_ 0 _ rfl; (with_reducible repeat (first | refine blk_drewN ?_ _ | refine blk_drew ?_ | refine blk_alloc ?_ _)); refine blk_far ?_ NB262_261.out _; (with_reducible repeat (first | refine blk_drewN ?_ _ | refine blk_drew ?_ | refine blk_alloc ?_ _)); refine blk_far ?_ NB262_261.out _; (with_reducible repeat (first | refine blk_drewN ?_ _ | refine blk_drew ?_ | refine blk_alloc ?_ _)); refine blk_far ?_ NB262_260.out _; (with_reducible repeat (first | refine blk_drewN ?_ _ | refine blk_drew ?_ | refine blk_alloc ?_ _)); refine blk_far ?_ NB262_260.out _; (with_reducible repeat (first | refine blk_drewN ?_ _ | refine blk_drew ?_ | refine blk_alloc ?_ _)); exact BK262.out) Try.underlying75 rfl (by kernel_rfl) .nil)))) rfl ?_
         exact ⟨by first | rfl | (simp [errW_none, errW_some] <;> rfl) | (simp [*, errW_none, errW_some] <;> rfl), bS HB.out⟩
        ·rw [if_neg c44] at H
         have c44b0 : (a0 == 6) = false := beq_eq_false_iff_ne.mpr c44
         have c44b1 : (a0 != 6) = true := bne_iff_ne.mpr c44
         by_cases c52 : a0 = 15
         ·rw [if_pos c52] at H
          have c52b0 : (a0 == 15) = true := beq_iff_eq.mpr c52
          have c52b1 : (a0 != 15) = false := bne_eq_false_iff_eq.mpr c52
          clear c52
          simp only [Option.some.injEq, Prod.mk.injEq] at H
          obtain ⟨rfl, rfl, rfl, rfl, rfl, rfl⟩ := H
          try go_wp2
          have n0_ := aM (blk_drew BK260.out)
          have n1_ := aM (blk_drew BK261.out)
          have n2_ := aM (blk_drew BK262.out)
          have n3_ := aM (blk_drew BK263.out)
          have n4_ := aM (blk_drew BK264.out)
          have n5_ := aM (below_drew1 HB.out)
          clear BK260
          clear BK261
          clear BK262
          clear BK263
          clear BK264
          clear HB
          have BK260 := n0_
          have BK261 := n1_
          have BK262 := n2_
          have BK263 := n3_
          have BK264 := n4_
          have HB := n5_
          clear n0_ n1_ n2_ n3_ n4_ n5_
          refine start_ (n := 6) (S := fun w' => w'.cell? ⟨gb263, 0, none⟩ = some (.int .i64 0) ∧ w'.cell? ⟨gb263, 1, none⟩ = some (.int .i64 0)) (ds := []) #[false, false, false, false, false, false] (by kernel_rfl) rfl rfl ⟨(blk_cell BK263.out 0).trans rfl, (blk_cell BK263.out 1).trans rfl⟩ (fun hHeld => ?_)
          generalize wc.drew = w53 at BK260 BK261 BK262 BK263 BK264 HB hHeld ⊢
          refine pure_ (i := 2) (N := some 36) (v := ?_) (a' := ?_) #[false, false, true, false, false, false] rfl rfl (by kernel_rfl) (fun _ _ _ h => h) (Or.inl ⟨by rfl, ?_⟩) ?_ ?_
          rotate_left
          ·intro w'
           go_simp
           with_reducible rfl
          rotate_left
          ·simp only [Act.put, List.setIfInBounds_toArray, List.set_cons_zero, List.set_cons_succ, i64_w, i32_w]
           rfl
          refine take_ (i := 0) (N := some 34) (v := ?_) (a' := ?_) #[true, false, true, false, false, false] rfl rfl (by kernel_rfl) (fun _ _ _ h => h) (Or.inl ⟨by rfl, ?_⟩) hHeld ?_ ?_
          rotate_left
          ·rintro w' ⟨s0, s1⟩
           go_simp
           with_reducible rfl
          rotate_left
          ·simp only [Act.put, List.setIfInBounds_toArray, List.set_cons_zero, List.set_cons_succ, i64_w, i32_w]
           rfl
          refine take_ (i := 1) (N := some 35) (v := ?_) (a' := ?_) #[true, true, true, false, false, false] rfl rfl (by kernel_rfl) (fun _ _ _ h => h) (Or.inl ⟨by rfl, ?_⟩) hHeld ?_ ?_
          rotate_left
          ·rintro w' ⟨s0, s1⟩
           go_simp
           with_reducible rfl
          rotate_left
          ·simp only [Act.put, List.setIfInBounds_toArray, List.set_cons_zero, List.set_cons_succ, i64_w, i32_w]
           rfl
          refine one_ (i := 3) (N := none) #[true, true, true, true, false, false] rfl rfl (by kernel_rfl) (by decide) (fun K hK => ?_)
          have hs54 : w53.cell? ⟨gb260, 0, none⟩ = some (.int .i64 0) := (blk_cell BK260.out 0).trans rfl
          have hfs54 := blk_frozen BK260.out 0
          have hns54_1 := NB261_260.out
          have hns54_2 := NB262_260.out
          have hns54_3 := NB263_260.out
          have hns54_4 := NB264_260.out
          have hms54_1 := NB260_261.out
          have hms54_2 := NB260_262.out
          have hms54_3 := NB260_263.out
          have hms54_4 := NB260_264.out
          have hs55 : w53.cell? ⟨gb260, 1, none⟩ = some (.int .i64 0) := (blk_cell BK260.out 1).trans rfl
          have hfs55 := blk_frozen BK260.out 1
          have hns55_1 := NB261_260.out
          have hns55_2 := NB262_260.out
          have hns55_3 := NB263_260.out
          have hns55_4 := NB264_260.out
          have hms55_1 := NB260_261.out
          have hms55_2 := NB260_262.out
          have hms55_3 := NB260_263.out
          have hms55_4 := NB260_264.out
          refine skip_ (w1 := ?_) (by rfl) rfl ?_ ?_
          rotate_left
          ·go_simp
           rfl
          refine hK.out _ _ ⟨((cell_far (p := ⟨gb260, _, none⟩) NB263_260.out _).trans (((cell_far (p := ⟨gb260, _, none⟩) NB263_260.out _).trans (hHeld.1)))), ((cell_far (p := ⟨gb260, _, none⟩) NB263_260.out _).trans (((cell_far (p := ⟨gb260, _, none⟩) NB263_260.out _).trans (hHeld.2))))⟩ (fun hHeld => ?_)
          clear hK K
          refine one_ (i := 4) (N := none) #[true, true, true, true, true, false] rfl rfl (by kernel_rfl) (by decide) (fun K hK => ?_)
          have hs56 : w53.cell? ⟨gb261, 0, none⟩ = some (.int .i64 0) := (blk_cell BK261.out 0).trans rfl
          have hfs56 := blk_frozen BK261.out 0
          have hns56_0 := NB260_261.out
          have hns56_2 := NB262_261.out
          have hns56_3 := NB263_261.out
          have hns56_4 := NB264_261.out
          have hms56_0 := NB261_260.out
          have hms56_2 := NB261_262.out
          have hms56_3 := NB261_263.out
          have hms56_4 := NB261_264.out
          have hs57 : w53.cell? ⟨gb261, 1, none⟩ = some (.int .i64 0) := (blk_cell BK261.out 1).trans rfl
          have hfs57 := blk_frozen BK261.out 1
          have hns57_0 := NB260_261.out
          have hns57_2 := NB262_261.out
          have hns57_3 := NB263_261.out
          have hns57_4 := NB264_261.out
          have hms57_0 := NB261_260.out
          have hms57_2 := NB261_262.out
          have hms57_3 := NB261_263.out
          have hms57_4 := NB261_264.out
          refine skip_ (w1 := ?_) (by rfl) rfl ?_ ?_
          rotate_left
          ·go_simp
           rfl
          refine hK.out _ _ ⟨((cell_far (p := ⟨gb261, _, none⟩) NB263_261.out _).trans (((cell_far (p := ⟨gb261, _, none⟩) NB263_261.out _).trans (hHeld.1)))), ((cell_far (p := ⟨gb261, _, none⟩) NB263_261.out _).trans (((cell_far (p := ⟨gb261, _, none⟩) NB263_261.out _).trans (hHeld.2))))⟩ (fun hHeld => ?_)
          clear hK K
          refine one_ (i := 5) (N := none) #[true, true, true, true, true, true] rfl rfl (by kernel_rfl) (by decide) (fun K hK => ?_)
          have hs58 : w53.cell? ⟨gb262, 0, none⟩ = some (.int .i64 0) := (blk_cell BK262.out 0).trans rfl
          have hfs58 := blk_frozen BK262.out 0
          have hns58_0 := NB260_262.out
          have hns58_1 := NB261_262.out
          have hns58_3 := NB263_262.out
          have hns58_4 := NB264_262.out
          have hms58_0 := NB262_260.out
          have hms58_1 := NB262_261.out
          have hms58_3 := NB262_263.out
          have hms58_4 := NB262_264.out
          have hs59 : w53.cell? ⟨gb262, 1, none⟩ = some (.int .i64 0) := (blk_cell BK262.out 1).trans rfl
          have hfs59 := blk_frozen BK262.out 1
          have hns59_0 := NB260_262.out
          have hns59_1 := NB261_262.out
          have hns59_3 := NB263_262.out
          have hns59_4 := NB264_262.out
          have hms59_0 := NB262_260.out
          have hms59_1 := NB262_261.out
          have hms59_3 := NB262_263.out
          have hms59_4 := NB262_264.out
          refine skip_ (w1 := ?_) (by rfl) rfl ?_ ?_
          rotate_left
          ·go_simp
           rfl
          refine hK.out _ _ ⟨((cell_far (p := ⟨gb262, _, none⟩) NB263_262.out _).trans (((cell_far (p := ⟨gb262, _, none⟩) NB263_262.out _).trans (hHeld.1)))), ((cell_far (p := ⟨gb262, _, none⟩) NB263_262.out _).trans (((cell_far (p := ⟨gb262, _, none⟩) NB263_262.out _).trans (hHeld.2))))⟩ (fun hHeld => ?_)
          clear hK K
          refine done_ (by kernel_rfl) ?_
          try go_wp2
          refine bodyPost_ret (results_list (rs := [.cell 2 75, .cell 3 75, .cell 4 75]) rfl (by simp) (.cell gb260 75 #[.int .i64 0, .int .i64 0] (0, 0) _ rfl (by (with_reducible repeat (first | refine blk_drewN ?_ _ | refine blk_drew ?_ | refine blk_alloc ?_ _)); refine blk_far ?_ NB260_262.out _; (with_reducible repeat (first | refine blk_drewN ?_ _ | refine blk_drew ?_ | refine blk_alloc ?_ _)); refine blk_far ?_ NB260_262.out _; (with_reducible repeat (first | refine blk_drewN ?_ _ | refine blk_drew ?_ | refine blk_alloc ?_ _)); refine blk_far ?_ NB260_261.out _; (with_reducible repeat (first | refine blk_drewN ?_ _ | refine blk_drew ?_ | refine blk_alloc ?_ _)); refine blk_far ?_ NB260_261.out _; (with_reducible repeat (first | refine blk_drewN ?_ _ | refine blk_drew ?_ | refine blk_alloc ?_ _)); refine blk_put (cs := #[.int .i64 0, .int .i64 0]) ?_ 1 _ rfl; (with_reducible repeat (first | refine blk_drewN ?_ _ | refine blk_drew ?_ | refine blk_alloc ?_ _)); refine blk_put (cs := #[.int .i64 0, .int .i64 0]) ?_ 0 _ rfl; (with_reducible repeat (first | refine blk_drewN ?_ _ | refine blk_drew ?_ | refine blk_alloc ?_ _)); exact BK260.out) Try.underlying75 rfl (by kernel_rfl) (.cell gb261 75 #[.int .i64 0, .int .i64 0] (0, 0) _ rfl (by (with_reducible repeat (first | refine blk_drewN ?_ _ | refine blk_drew ?_ | refine blk_alloc ?_ _)); refine blk_far ?_ NB261_262.out _; (with_reducible repeat (first | refine blk_drewN ?_ _ | refine blk_drew ?_ | refine blk_alloc ?_ _)); refine blk_far ?_ NB261_262.out _; (with_reducible repeat (first | refine blk_drewN ?_ _ | refine blk_drew ?_ | refine blk_alloc ?_ _)); refine blk_put (cs := #[.int .i64 0, .int .i64 0]) ?_ 1 _ rfl; (with_reducible repeat (first | refine blk_drewN ?_ _ | refine blk_drew ?_ | refine blk_alloc ?_ _)); refine blk_put (cs := #[.int .i64 0, .int .i64 0]) ?_ 0 _ rfl; (with_reducible repeat (first | refine blk_drewN ?_ _ | refine blk_drew ?_ | refine blk_alloc ?_ _)); refine blk_far ?_ NB261_260.out _; (with_reducible repeat (first | refine blk_drewN ?_ _ | refine blk_drew ?_ | refine blk_alloc ?_ _)); refine blk_far ?_ NB261_260.out _; (with_reducible repeat (first | refine blk_drewN ?_ _ | refine blk_drew ?_ | refine blk_alloc ?_ _)); exact BK261.out) Try.underlying75 rfl (by kernel_rfl) (.cell gb262 75 #[.int .i64 1, .int .i64 1968] (0, 0) _ rfl (by (with_reducible repeat (first | refine blk_drewN ?_ _ | refine blk_drew ?_ | refine blk_alloc ?_ _)); refine blk_put (cs := #[.int .i64 1, .int .i64 0]) ?_ 1 _ rfl; (with_reducible repeat (first | refine blk_drewN ?_ _ | refine blk_drew ?_ | refine blk_alloc ?_ _)); refine blk_put (cs := #[.int .i64 0, .int .i64 0]) ?_ 0 _ rfl; (with_reducible repeat (first | refine blk_drewN ?_ _ | refine blk_drew ?_ | refine blk_alloc ?_ _)); refine blk_far ?_ NB262_261.out _; (with_reducible repeat (first | refine blk_drewN ?_ _ | refine blk_drew ?_ | refine blk_alloc ?_ _)); refine blk_far ?_ NB262_261.out _; (with_reducible repeat (first | refine blk_drewN ?_ _ | refine blk_drew ?_ | refine blk_alloc ?_ _)); refine blk_far ?_ NB262_260.out _; (with_reducible repeat (first | refine blk_drewN ?_ _ | refine blk_drew ?_ | refine blk_alloc ?_ _)); refine blk_far ?_ NB262_260.out _; (with_reducible repeat (first | refine blk_drewN ?_ _ | refine blk_drew ?_ | refine blk_alloc ?_ _)); exact BK262.out) Try.underlying75 rfl (by kernel_rfl) .nil)))) rfl ?_
          exact ⟨by first | rfl | (simp [errW_none, errW_some] <;> rfl) | (simp [*, errW_none, errW_some] <;> rfl), bS HB.out⟩
         ·rw [if_neg c52] at H
          have c52b0 : (a0 == 15) = false := beq_eq_false_iff_ne.mpr c52
          have c52b1 : (a0 != 15) = true := bne_iff_ne.mpr c52
          by_cases c60 : a0 = 16
          ·rw [if_pos c60] at H
           have c60b0 : (a0 == 16) = true := beq_iff_eq.mpr c60
           have c60b1 : (a0 != 16) = false := bne_eq_false_iff_eq.mpr c60
           clear c60
           simp only [Option.some.injEq, Prod.mk.injEq] at H
           obtain ⟨rfl, rfl, rfl, rfl, rfl, rfl⟩ := H
           try go_wp2
           have n0_ := aM (blk_drew BK260.out)
           have n1_ := aM (blk_drew BK261.out)
           have n2_ := aM (blk_drew BK262.out)
           have n3_ := aM (blk_drew BK263.out)
           have n4_ := aM (blk_drew BK264.out)
           have n5_ := aM (below_drew1 HB.out)
           clear BK260
           clear BK261
           clear BK262
           clear BK263
           clear BK264
           clear HB
           have BK260 := n0_
           have BK261 := n1_
           have BK262 := n2_
           have BK263 := n3_
           have BK264 := n4_
           have HB := n5_
           clear n0_ n1_ n2_ n3_ n4_ n5_
           refine start_ (n := 6) (S := fun w' => w'.cell? ⟨gb263, 0, none⟩ = some (.int .i64 0) ∧ w'.cell? ⟨gb263, 1, none⟩ = some (.int .i64 0)) (ds := []) #[false, false, false, false, false, false] (by kernel_rfl) rfl rfl ⟨(blk_cell BK263.out 0).trans rfl, (blk_cell BK263.out 1).trans rfl⟩ (fun hHeld => ?_)
           generalize wc.drew = w61 at BK260 BK261 BK262 BK263 BK264 HB hHeld ⊢
           refine pure_ (i := 1) (N := some 40) (v := ?_) (a' := ?_) #[false, true, false, false, false, false] rfl rfl (by kernel_rfl) (fun _ _ _ h => h) (Or.inl ⟨by rfl, ?_⟩) ?_ ?_
           rotate_left
           ·intro w'
            go_simp
            with_reducible rfl
           rotate_left
           ·simp only [Act.put, List.setIfInBounds_toArray, List.set_cons_zero, List.set_cons_succ, i64_w, i32_w]
            rfl
           refine take_ (i := 0) (N := some 39) (v := ?_) (a' := ?_) #[true, true, false, false, false, false] rfl rfl (by kernel_rfl) (fun _ _ _ h => h) (Or.inl ⟨by rfl, ?_⟩) hHeld ?_ ?_
           rotate_left
           ·rintro w' ⟨s0, s1⟩
            go_simp
            with_reducible rfl
           rotate_left
           ·simp only [Act.put, List.setIfInBounds_toArray, List.set_cons_zero, List.set_cons_succ, i64_w, i32_w]
            rfl
           refine take_ (i := 2) (N := some 41) (v := ?_) (a' := ?_) #[true, true, true, false, false, false] rfl rfl (by kernel_rfl) (fun _ _ _ h => h) (Or.inl ⟨by rfl, ?_⟩) hHeld ?_ ?_
           rotate_left
           ·rintro w' ⟨s0, s1⟩
            go_simp
            with_reducible rfl
           rotate_left
           ·simp only [Act.put, List.setIfInBounds_toArray, List.set_cons_zero, List.set_cons_succ, i64_w, i32_w]
            rfl
           refine one_ (i := 3) (N := none) #[true, true, true, true, false, false] rfl rfl (by kernel_rfl) (by decide) (fun K hK => ?_)
           have hs62 : w61.cell? ⟨gb260, 0, none⟩ = some (.int .i64 0) := (blk_cell BK260.out 0).trans rfl
           have hfs62 := blk_frozen BK260.out 0
           have hns62_1 := NB261_260.out
           have hns62_2 := NB262_260.out
           have hns62_3 := NB263_260.out
           have hns62_4 := NB264_260.out
           have hms62_1 := NB260_261.out
           have hms62_2 := NB260_262.out
           have hms62_3 := NB260_263.out
           have hms62_4 := NB260_264.out
           have hs63 : w61.cell? ⟨gb260, 1, none⟩ = some (.int .i64 0) := (blk_cell BK260.out 1).trans rfl
           have hfs63 := blk_frozen BK260.out 1
           have hns63_1 := NB261_260.out
           have hns63_2 := NB262_260.out
           have hns63_3 := NB263_260.out
           have hns63_4 := NB264_260.out
           have hms63_1 := NB260_261.out
           have hms63_2 := NB260_262.out
           have hms63_3 := NB260_263.out
           have hms63_4 := NB260_264.out
           refine skip_ (w1 := ?_) (by rfl) rfl ?_ ?_
           rotate_left
           ·go_simp
            rfl
           refine hK.out _ _ ⟨((cell_far (p := ⟨gb260, _, none⟩) NB263_260.out _).trans (((cell_far (p := ⟨gb260, _, none⟩) NB263_260.out _).trans (hHeld.1)))), ((cell_far (p := ⟨gb260, _, none⟩) NB263_260.out _).trans (((cell_far (p := ⟨gb260, _, none⟩) NB263_260.out _).trans (hHeld.2))))⟩ (fun hHeld => ?_)
           clear hK K
           refine one_ (i := 4) (N := none) #[true, true, true, true, true, false] rfl rfl (by kernel_rfl) (by decide) (fun K hK => ?_)
           have hs64 : w61.cell? ⟨gb261, 0, none⟩ = some (.int .i64 0) := (blk_cell BK261.out 0).trans rfl
           have hfs64 := blk_frozen BK261.out 0
           have hns64_0 := NB260_261.out
           have hns64_2 := NB262_261.out
           have hns64_3 := NB263_261.out
           have hns64_4 := NB264_261.out
           have hms64_0 := NB261_260.out
           have hms64_2 := NB261_262.out
           have hms64_3 := NB261_263.out
           have hms64_4 := NB261_264.out
           have hs65 : w61.cell? ⟨gb261, 1, none⟩ = some (.int .i64 0) := (blk_cell BK261.out 1).trans rfl
           have hfs65 := blk_frozen BK261.out 1
           have hns65_0 := NB260_261.out
           have hns65_2 := NB262_261.out
           have hns65_3 := NB263_261.out
           have hns65_4 := NB264_261.out
           have hms65_0 := NB261_260.out
           have hms65_2 := NB261_262.out
           have hms65_3 := NB261_263.out
           have hms65_4 := NB261_264.out
           refine skip_ (w1 := ?_) (by rfl) rfl ?_ ?_
           rotate_left
           ·go_simp
            rfl
           refine hK.out _ _ ⟨((cell_far (p := ⟨gb261, _, none⟩) NB263_261.out _).trans (((cell_far (p := ⟨gb261, _, none⟩) NB263_261.out _).trans (hHeld.1)))), ((cell_far (p := ⟨gb261, _, none⟩) NB263_261.out _).trans (((cell_far (p := ⟨gb261, _, none⟩) NB263_261.out _).trans (hHeld.2))))⟩ (fun hHeld => ?_)
           clear hK K
           refine one_ (i := 5) (N := none) #[true, true, true, true, true, true] rfl rfl (by kernel_rfl) (by decide) (fun K hK => ?_)
           have hs66 : w61.cell? ⟨gb262, 0, none⟩ = some (.int .i64 0) := (blk_cell BK262.out 0).trans rfl
           have hfs66 := blk_frozen BK262.out 0
           have hns66_0 := NB260_262.out
           have hns66_1 := NB261_262.out
           have hns66_3 := NB263_262.out
           have hns66_4 := NB264_262.out
           have hms66_0 := NB262_260.out
           have hms66_1 := NB262_261.out
           have hms66_3 := NB262_263.out
           have hms66_4 := NB262_264.out
           have hs67 : w61.cell? ⟨gb262, 1, none⟩ = some (.int .i64 0) := (blk_cell BK262.out 1).trans rfl
           have hfs67 := blk_frozen BK262.out 1
           have hns67_0 := NB260_262.out
           have hns67_1 := NB261_262.out
           have hns67_3 := NB263_262.out
           have hns67_4 := NB264_262.out
           have hms67_0 := NB262_260.out
           have hms67_1 := NB262_261.out
           have hms67_3 := NB262_263.out
           have hms67_4 := NB262_264.out
           refine skip_ (w1 := ?_) (by rfl) rfl ?_ ?_
           rotate_left
           ·go_simp
            rfl
           refine hK.out _ _ ⟨((cell_far (p := ⟨gb262, _, none⟩) NB263_262.out _).trans (((cell_far (p := ⟨gb262, _, none⟩) NB263_262.out _).trans (hHeld.1)))), ((cell_far (p := ⟨gb262, _, none⟩) NB263_262.out _).trans (((cell_far (p := ⟨gb262, _, none⟩) NB263_262.out _).trans (hHeld.2))))⟩ (fun hHeld => ?_)
           clear hK K
           refine done_ (by kernel_rfl) ?_
           try go_wp2
           refine bodyPost_ret (results_list (rs := [.cell 2 75, .cell 3 75, .cell 4 75]) rfl (by simp) (.cell gb260 75 #[.int .i64 0, .int .i64 0] (0, 0) _ rfl (by (with_reducible repeat (first | refine blk_drewN ?_ _ | refine blk_drew ?_ | refine blk_alloc ?_ _)); refine blk_far ?_ NB260_262.out _; (with_reducible repeat (first | refine blk_drewN ?_ _ | refine blk_drew ?_ | refine blk_alloc ?_ _)); refine blk_far ?_ NB260_262.out _; (with_reducible repeat (first | refine blk_drewN ?_ _ | refine blk_drew ?_ | refine blk_alloc ?_ _)); refine blk_far ?_ NB260_261.out _; (with_reducible repeat (first | refine blk_drewN ?_ _ | refine blk_drew ?_ | refine blk_alloc ?_ _)); refine blk_far ?_ NB260_261.out _; (with_reducible repeat (first | refine blk_drewN ?_ _ | refine blk_drew ?_ | refine blk_alloc ?_ _)); refine blk_put (cs := #[.int .i64 0, .int .i64 0]) ?_ 1 _ rfl; (with_reducible repeat (first | refine blk_drewN ?_ _ | refine blk_drew ?_ | refine blk_alloc ?_ _)); refine blk_put (cs := #[.int .i64 0, .int .i64 0]) ?_ 0 _ rfl; (with_reducible repeat (first | refine blk_drewN ?_ _ | refine blk_drew ?_ | refine blk_alloc ?_ _)); exact BK260.out) Try.underlying75 rfl (by kernel_rfl) (.cell gb261 75 #[.int .i64 1, .int .i64 123] (0, 0) _ rfl (by (with_reducible repeat (first | refine blk_drewN ?_ _ | refine blk_drew ?_ | refine blk_alloc ?_ _)); refine blk_far ?_ NB261_262.out _; (with_reducible repeat (first | refine blk_drewN ?_ _ | refine blk_drew ?_ | refine blk_alloc ?_ _)); refine blk_far ?_ NB261_262.out _; (with_reducible repeat (first | refine blk_drewN ?_ _ | refine blk_drew ?_ | refine blk_alloc ?_ _)); refine blk_put (cs := #[.int .i64 1, .int .i64 0]) ?_ 1 _ rfl; (with_reducible repeat (first | refine blk_drewN ?_ _ | refine blk_drew ?_ | refine blk_alloc ?_ _)); refine blk_put (cs := #[.int .i64 0, .int .i64 0]) ?_ 0 _ rfl; (with_reducible repeat (first | refine blk_drewN ?_ _ | refine blk_drew ?_ | refine blk_alloc ?_ _)); refine blk_far ?_ NB261_260.out _; (with_reducible repeat (first | refine blk_drewN ?_ _ | refine blk_drew ?_ | refine blk_alloc ?_ _)); refine blk_far ?_ NB261_260.out _; (with_reducible repeat (first | refine blk_drewN ?_ _ | refine blk_drew ?_ | refine blk_alloc ?_ _)); exact BK261.out) Try.underlying75 rfl (by kernel_rfl) (.cell gb262 75 #[.int .i64 0, .int .i64 0] (0, 0) _ rfl (by (with_reducible repeat (first | refine blk_drewN ?_ _ | refine blk_drew ?_ | refine blk_alloc ?_ _)); refine blk_put (cs := #[.int .i64 0, .int .i64 0]) ?_ 1 _ rfl; (with_reducible repeat (first | refine blk_drewN ?_ _ | refine blk_drew ?_ | refine blk_alloc ?_ _)); refine blk_put (cs := #[.int .i64 0, .int .i64 0]) ?_ 0 _ rfl; (with_reducible repeat (first | refine blk_drewN ?_ _ | refine blk_drew ?_ | refine blk_alloc ?_ _)); refine blk_far ?_ NB262_261.out _; (with_reducible repeat (first | refine blk_drewN ?_ _ | refine blk_drew ?_ | refine blk_alloc ?_ _)); refine blk_far ?_ NB262_261.out _; (with_reducible repeat (first | refine blk_drewN ?_ _ | refine blk_drew ?_ | refine blk_alloc ?_ _)); refine blk_far ?_ NB262_260.out _; (with_reducible repeat (first | refine blk_drewN ?_ _ | refine blk_drew ?_ | refine blk_alloc ?_ _)); refine blk_far ?_ NB262_260.out _; (with_reducible repeat (first | refine blk_drewN ?_ _ | refine blk_drew ?_ | refine blk_alloc ?_ _)); exact BK262.out) Try.underlying75 rfl (by kernel_rfl) .nil)))) rfl ?_
           exact ⟨by first | rfl | (simp [errW_none, errW_some] <;> rfl) | (simp [*, errW_none, errW_some] <;> rfl), bS HB.out⟩
          ·rw [if_neg c60] at H
           have c60b0 : (a0 == 16) = false := beq_eq_false_iff_ne.mpr c60
           have c60b1 : (a0 != 16) = true := bne_iff_ne.mpr c60
           by_cases c68 : a0 = 22
           ·rw [if_pos c68] at H
            have c68b0 : (a0 == 22) = true := beq_iff_eq.mpr c68
            have c68b1 : (a0 != 22) = false := bne_eq_false_iff_eq.mpr c68
            clear c68
            simp only [Option.some.injEq, Prod.mk.injEq] at H
            obtain ⟨rfl, rfl, rfl, rfl, rfl, rfl⟩ := H
            try go_wp2
            have n0_ := aM (blk_drew BK260.out)
            have n1_ := aM (blk_drew BK261.out)
            have n2_ := aM (blk_drew BK262.out)
            have n3_ := aM (blk_drew BK263.out)
            have n4_ := aM (blk_drew BK264.out)
            have n5_ := aM (below_drew1 HB.out)
            clear BK260
            clear BK261
            clear BK262
            clear BK263
            clear BK264
            clear HB
            have BK260 := n0_
            have BK261 := n1_
            have BK262 := n2_
            have BK263 := n3_
            have BK264 := n4_
            have HB := n5_
            clear n0_ n1_ n2_ n3_ n4_ n5_
            refine start_ (n := 6) (S := fun w' => w'.cell? ⟨gb263, 0, none⟩ = some (.int .i64 0) ∧ w'.cell? ⟨gb263, 1, none⟩ = some (.int .i64 0)) (ds := []) #[false, false, false, false, false, false] (by kernel_rfl) rfl rfl ⟨(blk_cell BK263.out 0).trans rfl, (blk_cell BK263.out 1).trans rfl⟩ (fun hHeld => ?_)
            generalize wc.drew = w69 at BK260 BK261 BK262 BK263 BK264 HB hHeld ⊢
            refine pure_ (i := 1) (N := some 45) (v := ?_) (a' := ?_) #[false, true, false, false, false, false] rfl rfl (by kernel_rfl) (fun _ _ _ h => h) (Or.inl ⟨by rfl, ?_⟩) ?_ ?_
            rotate_left
            ·intro w'
             go_simp
             with_reducible rfl
            rotate_left
            ·simp only [Act.put, List.setIfInBounds_toArray, List.set_cons_zero, List.set_cons_succ, i64_w, i32_w]
             rfl
            refine take_ (i := 0) (N := some 44) (v := ?_) (a' := ?_) #[true, true, false, false, false, false] rfl rfl (by kernel_rfl) (fun _ _ _ h => h) (Or.inl ⟨by rfl, ?_⟩) hHeld ?_ ?_
            rotate_left
            ·rintro w' ⟨s0, s1⟩
             go_simp
             with_reducible rfl
            rotate_left
            ·simp only [Act.put, List.setIfInBounds_toArray, List.set_cons_zero, List.set_cons_succ, i64_w, i32_w]
             rfl
            refine take_ (i := 2) (N := some 46) (v := ?_) (a' := ?_) #[true, true, true, false, false, false] rfl rfl (by kernel_rfl) (fun _ _ _ h => h) (Or.inl ⟨by rfl, ?_⟩) hHeld ?_ ?_
            rotate_left
            ·rintro w' ⟨s0, s1⟩
             go_simp
             with_reducible rfl
            rotate_left
            ·simp only [Act.put, List.setIfInBounds_toArray, List.set_cons_zero, List.set_cons_succ, i64_w, i32_w]
             rfl
            refine one_ (i := 3) (N := none) #[true, true, true, true, false, false] rfl rfl (by kernel_rfl) (by decide) (fun K hK => ?_)
            have hs70 : w69.cell? ⟨gb260, 0, none⟩ = some (.int .i64 0) := (blk_cell BK260.out 0).trans rfl
            have hfs70 := blk_frozen BK260.out 0
            have hns70_1 := NB261_260.out
            have hns70_2 := NB262_260.out
            have hns70_3 := NB263_260.out
            have hns70_4 := NB264_260.out
            have hms70_1 := NB260_261.out
            have hms70_2 := NB260_262.out
            have hms70_3 := NB260_263.out
            have hms70_4 := NB260_264.out
            have hs71 : w69.cell? ⟨gb260, 1, none⟩ = some (.int .i64 0) := (blk_cell BK260.out 1).trans rfl
            have hfs71 := blk_frozen BK260.out 1
            have hns71_1 := NB261_260.out
            have hns71_2 := NB262_260.out
            have hns71_3 := NB263_260.out
            have hns71_4 := NB264_260.out
            have hms71_1 := NB260_261.out
            have hms71_2 := NB260_262.out
            have hms71_3 := NB260_263.out
            have hms71_4 := NB260_264.out
            refine skip_ (w1 := ?_) (by rfl) rfl ?_ ?_
            rotate_left
            ·go_simp
             rfl
            refine hK.out _ _ ⟨((cell_far (p := ⟨gb260, _, none⟩) NB263_260.out _).trans (((cell_far (p := ⟨gb260, _, none⟩) NB263_260.out _).trans (hHeld.1)))), ((cell_far (p := ⟨gb260, _, none⟩) NB263_260.out _).trans (((cell_far (p := ⟨gb260, _, none⟩) NB263_260.out _).trans (hHeld.2))))⟩ (fun hHeld => ?_)
            clear hK K
            refine one_ (i := 4) (N := none) #[true, true, true, true, true, false] rfl rfl (by kernel_rfl) (by decide) (fun K hK => ?_)
            have hs72 : w69.cell? ⟨gb261, 0, none⟩ = some (.int .i64 0) := (blk_cell BK261.out 0).trans rfl
            have hfs72 := blk_frozen BK261.out 0
            have hns72_0 := NB260_261.out
            have hns72_2 := NB262_261.out
            have hns72_3 := NB263_261.out
            have hns72_4 := NB264_261.out
            have hms72_0 := NB261_260.out
            have hms72_2 := NB261_262.out
            have hms72_3 := NB261_263.out
            have hms72_4 := NB261_264.out
            have hs73 : w69.cell? ⟨gb261, 1, none⟩ = some (.int .i64 0) := (blk_cell BK261.out 1).trans rfl
            have hfs73 := blk_frozen BK261.out 1
            have hns73_0 := NB260_261.out
            have hns73_2 := NB262_261.out
            have hns73_3 := NB263_261.out
            have hns73_4 := NB264_261.out
            have hms73_0 := NB261_260.out
            have hms73_2 := NB261_262.out
            have hms73_3 := NB261_263.out
            have hms73_4 := NB261_264.out
            refine skip_ (w1 := ?_) (by rfl) rfl ?_ ?_
            rotate_left
            ·go_simp
             rfl
            refine hK.out _ _ ⟨((cell_far (p := ⟨gb261, _, none⟩) NB263_261.out _).trans (((cell_far (p := ⟨gb261, _, none⟩) NB263_261.out _).trans (hHeld.1)))), ((cell_far (p := ⟨gb261, _, none⟩) NB263_261.out _).trans (((cell_far (p := ⟨gb261, _, none⟩) NB263_261.out _).trans (hHeld.2))))⟩ (fun hHeld => ?_)
            clear hK K
            refine one_ (i := 5) (N := none) #[true, true, true, true, true, true] rfl rfl (by kernel_rfl) (by decide) (fun K hK => ?_)
            have hs74 : w69.cell? ⟨gb262, 0, none⟩ = some (.int .i64 0) := (blk_cell BK262.out 0).trans rfl
            have hfs74 := blk_frozen BK262.out 0
            have hns74_0 := NB260_262.out
            have hns74_1 := NB261_262.out
            have hns74_3 := NB263_262.out
            have hns74_4 := NB264_262.out
            have hms74_0 := NB262_260.out
            have hms74_1 := NB262_261.out
            have hms74_3 := NB262_263.out
            have hms74_4 := NB262_264.out
            have hs75 : w69.cell? ⟨gb262, 1, none⟩ = some (.int .i64 0) := (blk_cell BK262.out 1).trans rfl
            have hfs75 := blk_frozen BK262.out 1
            have hns75_0 := NB260_262.out
            have hns75_1 := NB261_262.out
            have hns75_3 := NB263_262.out
            have hns75_4 := NB264_262.out
            have hms75_0 := NB262_260.out
            have hms75_1 := NB262_261.out
            have hms75_3 := NB262_263.out
            have hms75_4 := NB262_264.out
            refine skip_ (w1 := ?_) (by rfl) rfl ?_ ?_
            rotate_left
            ·go_simp
             rfl
            refine hK.out _ _ ⟨((cell_far (p := ⟨gb262, _, none⟩) NB263_262.out _).trans (((cell_far (p := ⟨gb262, _, none⟩) NB263_262.out _).trans (hHeld.1)))), ((cell_far (p := ⟨gb262, _, none⟩) NB263_262.out _).trans (((cell_far (p := ⟨gb262, _, none⟩) NB263_262.out _).trans (hHeld.2))))⟩ (fun hHeld => ?_)
            clear hK K
            refine done_ (by kernel_rfl) ?_
            try go_wp2
            refine bodyPost_ret (results_list (rs := [.cell 2 75, .cell 3 75, .cell 4 75]) rfl (by simp) (.cell gb260 75 #[.int .i64 0, .int .i64 0] (0, 0) _ rfl (by (with_reducible repeat (first | refine blk_drewN ?_ _ | refine blk_drew ?_ | refine blk_alloc ?_ _)); refine blk_far ?_ NB260_262.out _; (with_reducible repeat (first | refine blk_drewN ?_ _ | refine blk_drew ?_ | refine blk_alloc ?_ _)); refine blk_far ?_ NB260_262.out _; (with_reducible repeat (first | refine blk_drewN ?_ _ | refine blk_drew ?_ | refine blk_alloc ?_ _)); refine blk_far ?_ NB260_261.out _; (with_reducible repeat (first | refine blk_drewN ?_ _ | refine blk_drew ?_ | refine blk_alloc ?_ _)); refine blk_far ?_ NB260_261.out _; (with_reducible repeat (first | refine blk_drewN ?_ _ | refine blk_drew ?_ | refine blk_alloc ?_ _)); refine blk_put (cs := #[.int .i64 0, .int .i64 0]) ?_ 1 _ rfl; (with_reducible repeat (first | refine blk_drewN ?_ _ | refine blk_drew ?_ | refine blk_alloc ?_ _)); refine blk_put (cs := #[.int .i64 0, .int .i64 0]) ?_ 0 _ rfl; (with_reducible repeat (first | refine blk_drewN ?_ _ | refine blk_drew ?_ | refine blk_alloc ?_ _)); exact BK260.out) Try.underlying75 rfl (by kernel_rfl) (.cell gb261 75 #[.int .i64 2, .int .i64 2] (0, 0) _ rfl (by (with_reducible repeat (first | refine blk_drewN ?_ _ | refine blk_drew ?_ | refine blk_alloc ?_ _)); refine blk_far ?_ NB261_262.out _; (with_reducible repeat (first | refine blk_drewN ?_ _ | refine blk_drew ?_ | refine blk_alloc ?_ _)); refine blk_far ?_ NB261_262.out _; (with_reducible repeat (first | refine blk_drewN ?_ _ | refine blk_drew ?_ | refine blk_alloc ?_ _)); refine blk_put (cs := #[.int .i64 2, .int .i64 0]) ?_ 1 _ rfl; (with_reducible repeat (first | refine blk_drewN ?_ _ | refine blk_drew ?_ | refine blk_alloc ?_ _)); refine blk_put (cs := #[.int .i64 0, .int .i64 0]) ?_ 0 _ rfl; (with_reducible repeat (first | refine blk_drewN ?_ _ | refine blk_drew ?_ | refine blk_alloc ?_ _)); refine blk_far ?_ NB261_260.out _; (with_reducible repeat (first | refine blk_drewN ?_ _ | refine blk_drew ?_ | refine blk_alloc ?_ _)); refine blk_far ?_ NB261_260.out _; (with_reducible repeat (first | refine blk_drewN ?_ _ | refine blk_drew ?_ | refine blk_alloc ?_ _)); exact BK261.out) Try.underlying75 rfl (by kernel_rfl) (.cell gb262 75 #[.int .i64 0, .int .i64 0] (0, 0) _ rfl (by (with_reducible repeat (first | refine blk_drewN ?_ _ | refine blk_drew ?_ | refine blk_alloc ?_ _)); refine blk_put (cs := #[.int .i64 0, .int .i64 0]) ?_ 1 _ rfl; (with_reducible repeat (first | refine blk_drewN ?_ _ | refine blk_drew ?_ | refine blk_alloc ?_ _)); refine blk_put (cs := #[.int .i64 0, .int .i64 0]) ?_ 0 _ rfl; (with_reducible repeat (first | refine blk_drewN ?_ _ | refine blk_drew ?_ | refine blk_alloc ?_ _)); refine blk_far ?_ NB262_261.out _; (with_reducible repeat (first | refine blk_drewN ?_ _ | refine blk_drew ?_ | refine blk_alloc ?_ _)); refine blk_far ?_ NB262_261.out _; (with_reducible repeat (first | refine blk_drewN ?_ _ | refine blk_drew ?_ | refine blk_alloc ?_ _)); refine blk_far ?_ NB262_260.out _; (with_reducible repeat (first | refine blk_drewN ?_ _ | refine blk_drew ?_ | refine blk_alloc ?_ _)); refine blk_far ?_ NB262_260.out _; (with_reducible repeat (first | refine blk_drewN ?_ _ | refine blk_drew ?_ | refine blk_alloc ?_ _)); exact BK262.out) Try.underlying75 rfl (by kernel_rfl) .nil)))) rfl ?_
            exact ⟨by first | rfl | (simp [errW_none, errW_some] <;> rfl) | (simp [*, errW_none, errW_some] <;> rfl), bS HB.out⟩
           ·rw [if_neg c68] at H
            have c68b0 : (a0 == 22) = false := beq_eq_false_iff_ne.mpr c68
            have c68b1 : (a0 != 22) = true := bne_iff_ne.mpr c68
            simp only [Option.some.injEq, Prod.mk.injEq] at H
            obtain ⟨rfl, rfl, rfl, rfl, rfl, rfl⟩ := H
            try go_wp2
            have n0_ := aM (blk_drew BK260.out)
            have n1_ := aM (blk_drew BK261.out)
            have n2_ := aM (blk_drew BK262.out)
            have n3_ := aM (blk_drew BK263.out)
            have n4_ := aM (blk_drew BK264.out)
            have n5_ := aM (below_drew1 HB.out)
            clear BK260
            clear BK261
            clear BK262
            clear BK263
            clear BK264
            clear HB
            have BK260 := n0_
            have BK261 := n1_
            have BK262 := n2_
            have BK263 := n3_
            have BK264 := n4_
            have HB := n5_
            clear n0_ n1_ n2_ n3_ n4_ n5_
            refine start_ (n := 6) (S := fun w' => w'.cell? ⟨gb263, 0, none⟩ = some (.int .i64 0) ∧ w'.cell? ⟨gb263, 1, none⟩ = some (.int .i64 0)) (ds := []) #[false, false, false, false, false, false] (by kernel_rfl) rfl rfl ⟨(blk_cell BK263.out 0).trans rfl, (blk_cell BK263.out 1).trans rfl⟩ (fun hHeld => ?_)
            generalize wc.drew = w76 at BK260 BK261 BK262 BK263 BK264 HB hHeld ⊢
            refine pure_ (i := 0) (N := some 47) (v := ?_) (a' := ?_) #[true, false, false, false, false, false] rfl rfl (by kernel_rfl) (fun _ _ _ h => h) (Or.inl ⟨by rfl, ?_⟩) ?_ ?_
            rotate_left
            ·intro w'
             go_simp
             with_reducible rfl
            rotate_left
            ·simp only [Act.put, List.setIfInBounds_toArray, List.set_cons_zero, List.set_cons_succ, i64_w, i32_w]
             rfl
            refine pure_ (i := 1) (N := some 48) (v := ?_) (a' := ?_) #[true, true, false, false, false, false] rfl rfl (by kernel_rfl) (fun _ _ _ h => h) (Or.inl ⟨by rfl, ?_⟩) ?_ ?_
            rotate_left
            ·intro w'
             go_simp
             with_reducible rfl
            rotate_left
            ·simp only [Act.put, List.setIfInBounds_toArray, List.set_cons_zero, List.set_cons_succ, i64_w, i32_w]
             rfl
            refine take_ (i := 2) (N := some 49) (v := ?_) (a' := ?_) #[true, true, true, false, false, false] rfl rfl (by kernel_rfl) (fun _ _ _ h => h) (Or.inl ⟨by rfl, ?_⟩) hHeld ?_ ?_
            rotate_left
            ·rintro w' ⟨s0, s1⟩
             go_simp
             with_reducible rfl
            rotate_left
            ·simp only [Act.put, List.setIfInBounds_toArray, List.set_cons_zero, List.set_cons_succ, i64_w, i32_w]
             rfl
            refine one_ (i := 3) (N := none) #[true, true, true, true, false, false] rfl rfl (by kernel_rfl) (by decide) (fun K hK => ?_)
            have hs77 : w76.cell? ⟨gb260, 0, none⟩ = some (.int .i64 0) := (blk_cell BK260.out 0).trans rfl
            have hfs77 := blk_frozen BK260.out 0
            have hns77_1 := NB261_260.out
            have hns77_2 := NB262_260.out
            have hns77_3 := NB263_260.out
            have hns77_4 := NB264_260.out
            have hms77_1 := NB260_261.out
            have hms77_2 := NB260_262.out
            have hms77_3 := NB260_263.out
            have hms77_4 := NB260_264.out
            have hs78 : w76.cell? ⟨gb260, 1, none⟩ = some (.int .i64 0) := (blk_cell BK260.out 1).trans rfl
            have hfs78 := blk_frozen BK260.out 1
            have hns78_1 := NB261_260.out
            have hns78_2 := NB262_260.out
            have hns78_3 := NB263_260.out
            have hns78_4 := NB264_260.out
            have hms78_1 := NB260_261.out
            have hms78_2 := NB260_262.out
            have hms78_3 := NB260_263.out
            have hms78_4 := NB260_264.out
            refine skip_ (w1 := ?_) (by rfl) rfl ?_ ?_
            rotate_left
            ·go_simp
             rfl
            refine hK.out _ _ ⟨((cell_far (p := ⟨gb260, _, none⟩) NB263_260.out _).trans (((cell_far (p := ⟨gb260, _, none⟩) NB263_260.out _).trans (hHeld.1)))), ((cell_far (p := ⟨gb260, _, none⟩) NB263_260.out _).trans (((cell_far (p := ⟨gb260, _, none⟩) NB263_260.out _).trans (hHeld.2))))⟩ (fun hHeld => ?_)
            clear hK K
            refine one_ (i := 4) (N := none) #[true, true, true, true, true, false] rfl rfl (by kernel_rfl) (by decide) (fun K hK => ?_)
            have hs79 : w76.cell? ⟨gb261, 0, none⟩ = some (.int .i64 0) := (blk_cell BK261.out 0).trans rfl
            have hfs79 := blk_frozen BK261.out 0
            have hns79_0 := NB260_261.out
            have hns79_2 := NB262_261.out
            have hns79_3 := NB263_261.out
            have hns79_4 := NB264_261.out
            have hms79_0 := NB261_260.out
            have hms79_2 := NB261_262.out
            have hms79_3 := NB261_263.out
            have hms79_4 := NB261_264.out
            have hs80 : w76.cell? ⟨gb261, 1, none⟩ = some (.int .i64 0) := (blk_cell BK261.out 1).trans rfl
            have hfs80 := blk_frozen BK261.out 1
            have hns80_0 := NB260_261.out
            have hns80_2 := NB262_261.out
            have hns80_3 := NB263_261.out
            have hns80_4 := NB264_261.out
            have hms80_0 := NB261_260.out
            have hms80_2 := NB261_262.out
            have hms80_3 := NB261_263.out
            have hms80_4 := NB261_264.out
            refine skip_ (w1 := ?_) (by rfl) rfl ?_ ?_
            rotate_left
            ·go_simp
             rfl
            refine hK.out _ _ ⟨((cell_far (p := ⟨gb261, _, none⟩) NB263_261.out _).trans (((cell_far (p := ⟨gb261, _, none⟩) NB263_261.out _).trans (hHeld.1)))), ((cell_far (p := ⟨gb261, _, none⟩) NB263_261.out _).trans (((cell_far (p := ⟨gb261, _, none⟩) NB263_261.out _).trans (hHeld.2))))⟩ (fun hHeld => ?_)
            clear hK K
            refine one_ (i := 5) (N := none) #[true, true, true, true, true, true] rfl rfl (by kernel_rfl) (by decide) (fun K hK => ?_)
            have hs81 : w76.cell? ⟨gb262, 0, none⟩ = some (.int .i64 0) := (blk_cell BK262.out 0).trans rfl
            have hfs81 := blk_frozen BK262.out 0
            have hns81_0 := NB260_262.out
            have hns81_1 := NB261_262.out
            have hns81_3 := NB263_262.out
            have hns81_4 := NB264_262.out
            have hms81_0 := NB262_260.out
            have hms81_1 := NB262_261.out
            have hms81_3 := NB262_263.out
            have hms81_4 := NB262_264.out
            have hs82 : w76.cell? ⟨gb262, 1, none⟩ = some (.int .i64 0) := (blk_cell BK262.out 1).trans rfl
            have hfs82 := blk_frozen BK262.out 1
            have hns82_0 := NB260_262.out
            have hns82_1 := NB261_262.out
            have hns82_3 := NB263_262.out
            have hns82_4 := NB264_262.out
            have hms82_0 := NB262_260.out
            have hms82_1 := NB262_261.out
            have hms82_3 := NB262_263.out
            have hms82_4 := NB262_264.out
            refine skip_ (w1 := ?_) (by rfl) rfl ?_ ?_
            rotate_left
            ·go_simp
             rfl
            refine hK.out _ _ ⟨((cell_far (p := ⟨gb262, _, none⟩) NB263_262.out _).trans (((cell_far (p := ⟨gb262, _, none⟩) NB263_262.out _).trans (hHeld.1)))), ((cell_far (p := ⟨gb262, _, none⟩) NB263_262.out _).trans (((cell_far (p := ⟨gb262, _, none⟩) NB263_262.out _).trans (hHeld.2))))⟩ (fun hHeld => ?_)
            clear hK K
            refine done_ (by kernel_rfl) ?_
            try go_wp2
            refine bodyPost_ret (results_list (rs := [.cell 2 75, .cell 3 75, .cell 4 75]) rfl (by simp) (.cell gb260 75 #[.int .i64 1, .int .i64 125] (0, 0) _ rfl (by (with_reducible repeat (first | refine blk_drewN ?_ _ | refine blk_drew ?_ | refine blk_alloc ?_ _)); refine blk_far ?_ NB260_262.out _; (with_reducible repeat (first | refine blk_drewN ?_ _ | refine blk_drew ?_ | refine blk_alloc ?_ _)); refine blk_far ?_ NB260_262.out _; (with_reducible repeat (first | refine blk_drewN ?_ _ | refine blk_drew ?_ | refine blk_alloc ?_ _)); refine blk_far ?_ NB260_261.out _; (with_reducible repeat (first | refine blk_drewN ?_ _ | refine blk_drew ?_ | refine blk_alloc ?_ _)); refine blk_far ?_ NB260_261.out _; (with_reducible repeat (first | refine blk_drewN ?_ _ | refine blk_drew ?_ | refine blk_alloc ?_ _)); refine blk_put (cs := #[.int .i64 1, .int .i64 0]) ?_ 1 _ rfl; (with_reducible repeat (first | refine blk_drewN ?_ _ | refine blk_drew ?_ | refine blk_alloc ?_ _)); refine blk_put (cs := #[.int .i64 0, .int .i64 0]) ?_ 0 _ rfl; (with_reducible repeat (first | refine blk_drewN ?_ _ | refine blk_drew ?_ | refine blk_alloc ?_ _)); exact BK260.out) Try.underlying75 rfl (by kernel_rfl) (.cell gb261 75 #[.int .i64 1, .int .i64 121] (0, 0) _ rfl (by (with_reducible repeat (first | refine blk_drewN ?_ _ | refine blk_drew ?_ | refine blk_alloc ?_ _)); refine blk_far ?_ NB261_262.out _; (with_reducible repeat (first | refine blk_drewN ?_ _ | refine blk_drew ?_ | refine blk_alloc ?_ _)); refine blk_far ?_ NB261_262.out _; (with_reducible repeat (first | refine blk_drewN ?_ _ | refine blk_drew ?_ | refine blk_alloc ?_ _)); refine blk_put (cs := #[.int .i64 1, .int .i64 0]) ?_ 1 _ rfl; (with_reducible repeat (first | refine blk_drewN ?_ _ | refine blk_drew ?_ | refine blk_alloc ?_ _)); refine blk_put (cs := #[.int .i64 0, .int .i64 0]) ?_ 0 _ rfl; (with_reducible repeat (first | refine blk_drewN ?_ _ | refine blk_drew ?_ | refine blk_alloc ?_ _)); refine blk_far ?_ NB261_260.out _; (with_reducible repeat (first | refine blk_drewN ?_ _ | refine blk_drew ?_ | refine blk_alloc ?_ _)); refine blk_far ?_ NB261_260.out _; (with_reducible repeat (first | refine blk_drewN ?_ _ | refine blk_drew ?_ | refine blk_alloc ?_ _)); exact BK261.out) Try.underlying75 rfl (by kernel_rfl) (.cell gb262 75 #[.int .i64 0, .int .i64 0] (0, 0) _ rfl (by (with_reducible repeat (first | refine blk_drewN ?_ _ | refine blk_drew ?_ | refine blk_alloc ?_ _)); refine blk_put (cs := #[.int .i64 0, .int .i64 0]) ?_ 1 _ rfl; (with_reducible repeat (first | refine blk_drewN ?_ _ | refine blk_drew ?_ | refine blk_alloc ?_ _)); refine blk_put (cs := #[.int .i64 0, .int .i64 0]) ?_ 0 _ rfl; (with_reducible repeat (first | refine blk_drewN ?_ _ | refine blk_drew ?_ | refine blk_alloc ?_ _)); refine blk_far ?_ NB262_261.out _; (with_reducible repeat (first | refine blk_drewN ?_ _ | refine blk_drew ?_ | refine blk_alloc ?_ _)); refine blk_far ?_ NB262_261.out _; (with_reducible repeat (first | refine blk_drewN ?_ _ | refine blk_drew ?_ | refine blk_alloc ?_ _)); refine blk_far ?_ NB262_260.out _; (with_reducible repeat (first | refine blk_drewN ?_ _ | refine blk_drew ?_ | refine blk_alloc ?_ _)); refine blk_far ?_ NB262_260.out _; (with_reducible repeat (first | refine blk_drewN ?_ _ | refine blk_drew ?_ | refine blk_alloc ?_ _)); exact BK262.out) Try.underlying75 rfl (by kernel_rfl) .nil)))) rfl ?_
            exact ⟨by first | rfl | (simp [errW_none, errW_some] <;> rfl) | (simp [*, errW_none, errW_some] <;> rfl), bS HB.out⟩

end Go.Proofs.Yteoghpcgompajaa.PFnExactPutReq
