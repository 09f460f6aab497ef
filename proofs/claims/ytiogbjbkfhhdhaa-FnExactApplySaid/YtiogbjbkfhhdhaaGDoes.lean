/- What impl.does does: a question all of whose places are there, kind by kind. Condition: the places are there. -/
import Derived.Test.YtiogbjbkfhhdhaaGBox
import Derived.Test.YtiogbjbkfhhdhaaGSrvB
namespace Go.Proofs.Ytiogbjbkfhhdhaa.G
open Go.Proofs.Ytiogbjbkfhhdhaa.K Go Go.RowKit Go.Proofs.YtiogbjbkfhhdhaaW.PrintWords Go.Proofs.YtiogbjbkfhhdhaaW.PrintLast Go.Proofs.YtiogbjbkfhhdhaaW.PrintMore
set_option linter.unusedVariables false
set_option linter.unusedSimpArgs false

theorem infoDb : (Try.prog.info? 4).map (fun i => (i.zero, i.size, i.bytes)) = some (some (.bool false), 1, 1) := by kernel_rfl
theorem infoDi : (Try.prog.info? 3).map (fun i => (i.zero, i.size, i.bytes)) = some (some (.int .i64 0), 1, 8) := by kernel_rfl
theorem readq {w0 w' : World} {ad : Addr} {xs : List Int} (h : Kd.C (Kd.int .i64) w0 (some ad) xs.length xs) (hb : Below w0.heap.size w0 w') (j : Nat) (hj : j < xs.length) : w'.cell? (ad.add j) = some (.int .i64 (rd xs j)) := by
  obtain ⟨ad', e, hc⟩ := Kd.at_int (Kd.C_below h hb) j (by omega) (by omega)
  cases e
  simpa using hc
theorem readq0 {w0 w' : World} {ad : Addr} {xs : List Int} (h : Kd.C (Kd.int .i64) w0 (some ad) xs.length xs) (hb : Below w0.heap.size w0 w') (hj : 0 < xs.length) : w'.cell? ad = some (.int .i64 (rd xs 0)) := by
  have := readq h hb 0 hj
  rwa [show ad.add 0 = ad by simp [Addr.add]] at this
theorem readq1 {w0 w' : World} {ad : Addr} {xs : List Int} (h : Kd.C (Kd.int .i64) w0 (some ad) xs.length xs) (hb : Below w0.heap.size w0 w') (hj : 1 < xs.length) : w'.cell? ⟨ad.block, ad.off + 1, none⟩ = some (.int .i64 (rd xs 1)) := by
  have := readq h hb 1 hj
  rwa [show ad.add 1 = ⟨ad.block, ad.off + 1, none⟩ by simp [Addr.add]] at this
/-- How a call of impl.does ends. -/
def DoesPost (w0 w : World) (v0 v1 v2 v3 : Value) (r0 l1 : List Bool) (r2 l3 : List Int) (kd rat rn : Int) (rw : List Int) (rb : List Bool) : Ending → World → Prop := fun e w' =>
  ∃ v4 v5 : Value, e = .returned (.agg #[.int .i64 kd, .int .i64 0, .int .i64 rat, .int .i64 rn, v4, v5]) ∧ Rows4 w' w0.heap.size v0 v1 v2 v3 r0 l1 r2 l3 ∧ Kd.R (Kd.int .i64) 3 w' w.heap.size (fun _ => True) v4 rw ∧ Kd.R Kd.bool 4 w' w.heap.size (fun _ => True) v5 rb ∧ Below w0.heap.size w0 w' ∧ Kept w w' (fun k => some k = v0.ownBlock ∨ some k = v2.ownBlock)

set_option maxHeartbeats 4000000 in
set_option maxRecDepth 100000 in
theorem does_1 (g : Nat) (A0 A1 A2 A3 : Option Addr) (c0 c1 c2 c3 : Nat) (l0 l1 : List Bool) (l2 l3 : List Int) (at_ n wat : Int) (A4 A5 : Option Addr) (c4 c5 : Nat) (qw : List Int) (qb : List Bool) (w0 w : World)
    (hb : w.heap[g]? = some (.cells #[.slice A0 l0.length c0, .slice A1 l1.length c1, .slice A2 l2.length c2, .slice A3 l3.length c3] 30 (0, 0))) (hD : DX w0 w w [] (.slice A0 l0.length c0) (.slice A1 l1.length c1) (.slice A2 l2.length c2) (.slice A3 l3.length c3) l0 l1 l2 l3) (hC4 : Kd.C (Kd.int .i64) w0 A4 qw.length qw) (hc4 : qw.length ≤ c4) (hC5 : Kd.C Kd.bool w0 A5 qb.length qb) (hc5 : qb.length ≤ c5)
    (k : Nat) (h0 : 0 ≤ at_) (h1 : 0 ≤ n) (h2 : at_ + n ≤ (l0.length : Int)) (r : List Bool) (hcl : impl_filled.f k ((l0.take (at_ + n).toNat).drop at_.toNat) = some r) :
    Calls Try.prog 46 #[.pointer (some ⟨g, 0, none⟩), .agg #[.int .i64 1, .int .i64 at_, .int .i64 n, .slice A4 qw.length c4, .slice A5 qb.length c5, .int .i64 wat]] w (DoesPost w0 w (.slice A0 l0.length c0) (.slice A1 l1.length c1) (.slice A2 l2.length c2) (.slice A3 l3.length c3) l0 l1 l2 l3 1 0 0 [] r) := by
  have hdC : ∀ {W : World}, Rows4 W w0.heap.size (.slice A0 l0.length c0) (.slice A1 l1.length c1) (.slice A2 l2.length c2) (.slice A3 l3.length c3) l0 l1 l2 l3 → Kd.C Kd.bool W A0 l0.length l0 := fun hr => (Kd.R_reads' hr.1).2.2
  have hroom : l0.length ≤ c0 := (Kd.R_reads' hD.rows.1).2.1
  have hXl : l0.length = l0.length := rfl
  have hjlim : l0.length ≤ 9223372036854775807 := (Kd.R_reads' hD.rows.1).2.2.2.1
  obtain ⟨i0, hi, hz⟩ := Option.map_eq_some_iff.1 infoDb
  simp only [Prod.mk.injEq] at hz
  obtain ⟨j, hj⟩ : ∃ j, at_ + n = j := ⟨_, rfl⟩
  have hjw : IntKind.i64.wrap (at_ + n) = j := by rw [IntKind.wrap_i64]; omega
  have hjw2 : wrap64 (at_ + n) = j := by unfold wrap64; omega
  rw [hj] at h2 hcl
  have h01 : at_ ≤ j := by omega
  have hcut := cut_mid (P := Try.prog) 22 4 .i64 .i64 Try.underlying22 hi 1 hz.2.1 A0 l0.length c0 at_ j h0 h01 h2 hroom
  have hC : ∀ {W : World}, Rows4 W w0.heap.size (.slice A0 l0.length c0) (.slice A1 l1.length c1) (.slice A2 l2.length c2) (.slice A3 l3.length c3) l0 l1 l2 l3 → Kd.C Kd.bool W (if c0 = at_.toNat then A0 else A0.map (·.add (at_.toNat * 1))) ((l0.take j.toNat).drop at_.toNat).length ((l0.take j.toNat).drop at_.toNat) := fun hr => Kd.C_mid (hdC hr) (by omega) (by omega) (by omega)
  have hl : ((l0.take j.toNat).drop at_.toNat).length = j.toNat - at_.toNat := by rw [List.length_drop, List.length_take]; omega
  have hRC : ((l0.take j.toNat).drop at_.toNat).length ≤ c0 - at_.toNat := by rw [hl]; omega
  rw [← hl] at hcut
  generalize (if c0 = at_.toNat then A0 else A0.map (·.add (at_.toNat * 1))) = AR at hcut hC
  generalize c0 - at_.toNat = cR at hcut hRC
  generalize (l0.take j.toNat).drop at_.toNat = R at hcut hC hRC hcl
  have HC : Aside0 (∀ {W : World}, Rows4 W w0.heap.size (.slice A0 l0.length c0) (.slice A1 l1.length c1) (.slice A2 l2.length c2) (.slice A3 l3.length c3) l0 l1 l2 l3 → Kd.C Kd.bool W AR R.length R) := ⟨hC⟩
  have HRC := aM hRC
  replace hcl := aM hcl
  clear hdC hroom hjlim hi hz hj h0 h1 h2 h01 hl hC hRC hXl
  have hu30 := Try.underlying30
  have hu36 := Try.underlying36
  have hu32 := Try.underlying32
  have HG := aM hb
  have HN0 := aM (hD.rows.ne0 hb (by decide))
  have HN2 := aM (hD.rows.ne2 hb (by decide))
  have HD := aM hD
  have HC4 := aM hC4
  have HC5 := aM hC5
  have Hc4 := aM hc4
  have Hc5 := aM hc5
  clear hb hD hC4 hC5 hc4 hc5
  go_enter Try.func46, Try.ntmps46
  go_wp2_with (first | ((with_reducible refine gate_dst (N := 3) rfl ?_); refine box_event ?hg (N := 3) ?hd (cs := #[.int .i64 1, .int .i64 at_, .int .i64 n, .slice A4 qw.length c4, .slice A5 qb.length c5, .int .i64 wat]) (t := 36) ?hr ?_; (case hd => rfl); (case hg => rfl); (case hr => first | (go_simp; done) | (go_simp; rfl)); intro gq hg _ hbox hb_; have HD1 := aM (HD.out.box hg hbox hb_); clear HD hg hbox hb_; have HD := HD1; clear HD1; obtain ⟨hy0, gy0, hy1, gy1, hy2, gy2, hy3, gy3, hy4, gy4, hy5, gy5⟩ := bk6 (HD.out.blk (g := gq) (cs := #[.int .i64 1, .int .i64 at_, .int .i64 n, .slice A4 qw.length c4, .slice A5 qb.length c5, .int .i64 wat]) (t := 36) (by simp))) | ((with_reducible refine gate_dst (N := 4) rfl ?_); refine box_event ?hg (N := 4) ?hd (cs := #[.int .i64 0, .int .i64 0, .int .i64 0, .int .i64 0, .slice none 0 0, .slice none 0 0]) (t := 32) ?hr ?_; (case hd => rfl); (case hg => rfl); (case hr => first | (go_simp; done) | (go_simp; rfl)); intro gr hg _ hbox hb_; have HD1 := aM (HD.out.box hg hbox hb_); clear HD hg hbox hb_; have HD := HD1; clear HD1; clear hy0 gy0 hy1 gy1 hy2 gy2 hy3 gy3 hy4 gy4 hy5 gy5; obtain ⟨hy0, gy0, hy1, gy1, hy2, gy2, hy3, gy3, hy4, gy4, hy5, gy5⟩ := bk6 (HD.out.blk (g := gq) (cs := #[.int .i64 1, .int .i64 at_, .int .i64 n, .slice A4 qw.length c4, .slice A5 qb.length c5, .int .i64 wat]) (t := 36) (by simp))) | ((with_reducible refine gate_dst (N := 5) rfl ?_); refine box_event ?hg (N := 5) ?hd (cs := #[.int .i64 0, .int .i64 0, .int .i64 0, .int .i64 0, .slice none 0 0, .slice none 0 0]) (t := 32) ?hr ?_; (case hd => rfl); (case hg => rfl); (case hr => first | (go_simp; done) | (go_simp; rfl)); intro ga hg _ hbox hb_; have HD1 := aM (HD.out.box hg hbox hb_); clear HD hg hbox hb_; have HD := HD1; clear HD1; clear hy0 gy0 hy1 gy1 hy2 gy2 hy3 gy3 hy4 gy4 hy5 gy5) | ((with_reducible refine gate_store (t := 32) (p := 5) rfl ?_); refine wpList_store_row rfl 32 (.tmp 5) (.tmp 8) rfl ga #[.int .i64 1, .int .i64 0, .int .i64 0, .int .i64 0, .slice none 0 0, .slice none 0 0] rfl rfl 32 #[.int .i64 0, .int .i64 0, .int .i64 0, .int .i64 0, .slice none 0 0, .slice none 0 0] (HD.out.blk (cs := #[.int .i64 0, .int .i64 0, .int .i64 0, .int .i64 0, .slice none 0 0, .slice none 0 0]) (t := 32) (by simp)) (by kernel_rfl) rfl (by simp [Value.oneCell']) ?_; have HD1 := aM (HD.out.row [] [(gr, #[.int .i64 0, .int .i64 0, .int .i64 0, .int .i64 0, .slice none 0 0, .slice none 0 0], 32), (gq, #[.int .i64 1, .int .i64 at_, .int .i64 n, .slice A4 qw.length c4, .slice A5 qb.length c5, .int .i64 wat], 36)] #[.int .i64 1, .int .i64 0, .int .i64 0, .int .i64 0, .slice none 0 0, .slice none 0 0]); clear HD; generalize World.setRow _ _ _ = w4 at HD1 ⊢; have HD := HD1; clear HD1; obtain ⟨hz0, fz0, hz1, fz1, hz2, fz2, hz3, fz3, hz4, fz4, hz5, fz5⟩ := bk6 (HD.out.blk (g := gq) (cs := #[.int .i64 1, .int .i64 at_, .int .i64 n, .slice A4 qw.length c4, .slice A5 qb.length c5, .int .i64 wat]) (t := 36) (by simp))))
  refine start_ (n := 15) (S := fun w' => w'.cell? ⟨g, 0, none⟩ = some (.slice A0 l0.length c0) ∧ w'.cell? ⟨gq, 1, none⟩ = some (.int .i64 at_) ∧ w'.cell? ⟨gq, 2, none⟩ = some (.int .i64 n)) (ds := []) (flg 0 15) (by kernel_rfl) rfl rfl ⟨(blk_cell ((HD.out.drew).old HG.out HN0.out HN2.out) 0).trans rfl, (blk_cell ((HD.out.drew).blk (g := gq) (cs := #[.int .i64 1, .int .i64 at_, .int .i64 n, .slice A4 qw.length c4, .slice A5 qb.length c5, .int .i64 wat]) (t := 36) (by simp)) 1).trans rfl, (blk_cell ((HD.out.drew).blk (g := gq) (cs := #[.int .i64 1, .int .i64 at_, .int .i64 n, .slice A4 qw.length c4, .slice A5 qb.length c5, .int .i64 wat]) (t := 36) (by simp)) 2).trans rfl⟩ (fun hHeld => ?_)
  have HD1 := aM HD.out.drew
  clear HD
  generalize w4.drew = w5 at HD1 hHeld ⊢
  have HD := HD1
  clear HD1
  refine pk (i := 0) (N := some 13) (flg 1 15) ?_
  refine pk (i := 1) (N := some 14) (flg 2 15) ?_
  refine pk (i := 2) (N := some 15) (flg 3 15) ?_
  refine tk3 (i := 3) (N := some 16) (flg 4 15) hHeld ?_
  refine pk (i := 4) (N := some 17) (flg 5 15) ?_
  refine tk3 (i := 5) (N := some 18) (flg 6 15) hHeld ?_
  refine pk (i := 6) (N := some 19) (flg 7 15) ?_
  refine tk3 (i := 7) (N := some 20) (flg 8 15) hHeld ?_
  refine pk (i := 8) (N := some 21) (flg 9 15) ?_
  refine tk3 (i := 9) (N := some 22) (flg 10 15) hHeld ?_
  refine pk (i := 10) (N := some 23) (flg 11 15) ?_
  refine pk (i := 11) (N := some 24) (flg 12 15) ?_
  refine one_ (i := 12) (N := some 25) (flg 13 15) rfl rfl (by kernel_rfl) (by decide) (fun K hK => ?_)
  refine goes_ Try.func65 (by kernel_rfl) rfl #[.slice AR R.length cR] (by rfl) rfl rfl (by (try simp only [List.map_toArray, List.map_cons, List.map_nil]); first | done | rfl) ?_
  refine (impl_filled.calls k AR cR R r _ (HC.out HD.out.rows) HRC.out hcl.out).mono ?_
  rintro e w6 ⟨v6, rfl, ho, hb_⟩
  refine ⟨_, rfl, ?_⟩
  have HV := aM (Kd.R_lower ho HD.out.2.2.2.2.1)
  have HD1 := aM (HD.out.below hb_)
  clear ho hb_ HD
  have HD := HD1
  clear HD1
  obtain ⟨Av, cv, ev⟩ := Kd.R_slice HV.out
  subst ev
  refine hK.out _ _ ⟨(blk_cell ((HD.out).old HG.out HN0.out HN2.out) 0).trans rfl, (blk_cell ((HD.out).blk (g := gq) (cs := #[.int .i64 1, .int .i64 at_, .int .i64 n, .slice A4 qw.length c4, .slice A5 qb.length c5, .int .i64 wat]) (t := 36) (by simp)) 1).trans rfl, (blk_cell ((HD.out).blk (g := gq) (cs := #[.int .i64 1, .int .i64 at_, .int .i64 n, .slice A4 qw.length c4, .slice A5 qb.length c5, .int .i64 wat]) (t := 36) (by simp)) 2).trans rfl⟩ (fun hHeld => ?_)
  clear hK K
  refine norm_ (a' := ?_) ?_ ?_
  rotate_left
  · show Act.put _ (some 25) _ = _
    simp only [Act.put, List.setIfInBounds_toArray, List.set_cons_zero, List.set_cons_succ, i64_w, i32_w]
    rfl
  refine pk (i := 13) (N := some 26) (flg 14 15) ?_
  refine one_ (i := 14) (N := none) (flg 15 15) rfl rfl (by kernel_rfl) (by decide) (fun K hK => ?_)
  obtain ⟨hx0, fx0, hx1, fx1, hx2, fx2, hx3, fx3, hx4, fx4, hx5, fx5⟩ := bk6 (HD.out.blk (g := ga) (cs := #[.int .i64 1, .int .i64 0, .int .i64 0, .int .i64 0, .slice none 0 0, .slice none 0 0]) (t := 32) (by simp))
  refine skip_ (w1 := ?_) (by rfl) rfl ?_ ?_
  rotate_left
  · go_simp
    rfl
  have HV1 := aM (R_cell_ HV.out (HD.out.blk (g := ga) (cs := #[.int .i64 1, .int .i64 0, .int .i64 0, .int .i64 0, .slice none 0 0, .slice none 0 0]) (t := 32) (by simp)) (by decide) 5 (.slice Av r.length cv))
  have HD1 := aM (HD.out.cell [] [(gr, #[.int .i64 0, .int .i64 0, .int .i64 0, .int .i64 0, .slice none 0 0, .slice none 0 0], 32), (gq, #[.int .i64 1, .int .i64 at_, .int .i64 n, .slice A4 qw.length c4, .slice A5 qb.length c5, .int .i64 wat], 36)] (cs := #[.int .i64 1, .int .i64 0, .int .i64 0, .int .i64 0, .slice none 0 0, .slice none 0 0]) (cs' := #[.int .i64 1, .int .i64 0, .int .i64 0, .int .i64 0, .slice none 0 0, .slice Av r.length cv]) 5 (.slice Av r.length cv))
  clear HV HD hx0 fx0 hx1 fx1 hx2 fx2 hx3 fx3 hx4 fx4 hx5 fx5
  generalize World.setCell _ _ _ = w7 at HV1 HD1 ⊢
  have HV := HV1
  clear HV1
  have HD := HD1
  clear HD1
  refine hK.out _ _ ⟨(blk_cell ((HD.out).old HG.out HN0.out HN2.out) 0).trans rfl, (blk_cell ((HD.out).blk (g := gq) (cs := #[.int .i64 1, .int .i64 at_, .int .i64 n, .slice A4 qw.length c4, .slice A5 qb.length c5, .int .i64 wat]) (t := 36) (by simp)) 1).trans rfl, (blk_cell ((HD.out).blk (g := gq) (cs := #[.int .i64 1, .int .i64 at_, .int .i64 n, .slice A4 qw.length c4, .slice A5 qb.length c5, .int .i64 wat]) (t := 36) (by simp)) 2).trans rfl⟩ (fun hHeld => ?_)
  clear hK K
  refine done_ (by kernel_rfl) ?_
  clear hz0 fz0 hz1 fz1 hz2 fz2 hz3 fz3 hz4 fz4 hz5 fz5
  obtain ⟨hz0, fz0, hz1, fz1, hz2, fz2, hz3, fz3, hz4, fz4, hz5, fz5⟩ := bk6 (HD.out.blk (g := gq) (cs := #[.int .i64 1, .int .i64 at_, .int .i64 n, .slice A4 qw.length c4, .slice A5 qb.length c5, .int .i64 wat]) (t := 36) (by simp))
  go_wp2_with (first | ((with_reducible refine gate_dst (N := 188) rfl ?_); refine wpList_load_row rfl 32 (.tmp 5) rfl ga rfl 32 #[.int .i64 1, .int .i64 0, .int .i64 0, .int .i64 0, .slice none 0 0, .slice Av r.length cv] (0, 0) _ (HD.out.blk (by simp)) hu32 rfl (by kernel_rfl) ?_) | ((with_reducible refine gate_store (t := 32) (p := 4) rfl ?_); refine wpList_store_row rfl 32 (.tmp 4) (.tmp 188) rfl gr #[.int .i64 1, .int .i64 0, .int .i64 0, .int .i64 0, .slice none 0 0, .slice Av r.length cv] rfl rfl 32 #[.int .i64 0, .int .i64 0, .int .i64 0, .int .i64 0, .slice none 0 0, .slice none 0 0] (HD.out.blk (cs := #[.int .i64 0, .int .i64 0, .int .i64 0, .int .i64 0, .slice none 0 0, .slice none 0 0]) (t := 32) (by simp)) (by kernel_rfl) rfl (by simp [Value.oneCell']) ?_; have HD1 := aM (HD.out.row [(ga, #[.int .i64 1, .int .i64 0, .int .i64 0, .int .i64 0, .slice none 0 0, .slice Av r.length cv], 32)] [(gq, #[.int .i64 1, .int .i64 at_, .int .i64 n, .slice A4 qw.length c4, .slice A5 qb.length c5, .int .i64 wat], 36)] #[.int .i64 1, .int .i64 0, .int .i64 0, .int .i64 0, .slice none 0 0, .slice Av r.length cv]); (try (have HV1 := aM (R_row HV.out (HD.out.blk (g := gr) (cs := #[.int .i64 0, .int .i64 0, .int .i64 0, .int .i64 0, .slice none 0 0, .slice none 0 0]) (t := 32) (by simp)) (by decide) #[.int .i64 1, .int .i64 0, .int .i64 0, .int .i64 0, .slice none 0 0, .slice Av r.length cv]); clear HV; have HV := HV1; clear HV1)); (try (have HV1 := aM (R_row HV2.out (HD.out.blk (g := gr) (cs := #[.int .i64 0, .int .i64 0, .int .i64 0, .int .i64 0, .slice none 0 0, .slice none 0 0]) (t := 32) (by simp)) (by decide) #[.int .i64 1, .int .i64 0, .int .i64 0, .int .i64 0, .slice none 0 0, .slice Av r.length cv]); clear HV2; have HV2 := HV1; clear HV1)); clear HD; have HD := HD1; clear HD1))
  refine bodyPost_ret (results_cell_row rfl _ _ gr 32 #[.int .i64 1, .int .i64 0, .int .i64 0, .int .i64 0, .slice none 0 0, .slice Av r.length cv] (0, 0) _ rfl (HD.out.blk (by simp)) hu32 rfl (by kernel_rfl)) rfl ?_
  exact ⟨_, _, rfl, HD.out.rows, Kd.R_nil _ _ _ _ _, HV.out, HD.out.2.2.2.1, HD.out.2.2.2.2⟩
set_option maxHeartbeats 4000000 in
set_option maxRecDepth 100000 in
theorem does_2 (g : Nat) (A0 A1 A2 A3 : Option Addr) (c0 c1 c2 c3 : Nat) (l0 l1 : List Bool) (l2 l3 : List Int) (at_ n wat : Int) (A4 A5 : Option Addr) (c4 c5 : Nat) (qw : List Int) (qb : List Bool) (w0 w : World)
    (hb : w.heap[g]? = some (.cells #[.slice A0 l0.length c0, .slice A1 l1.length c1, .slice A2 l2.length c2, .slice A3 l3.length c3] 30 (0, 0))) (hD : DX w0 w w [] (.slice A0 l0.length c0) (.slice A1 l1.length c1) (.slice A2 l2.length c2) (.slice A3 l3.length c3) l0 l1 l2 l3) (hC4 : Kd.C (Kd.int .i64) w0 A4 qw.length qw) (hc4 : qw.length ≤ c4) (hC5 : Kd.C Kd.bool w0 A5 qb.length qb) (hc5 : qb.length ≤ c5)
    (k : Nat) (h0 : 0 ≤ at_) (h1 : 0 ≤ n) (h2 : at_ + n ≤ (l1.length : Int)) (r : List Bool) (hcl : impl_filled.f k ((l1.take (at_ + n).toNat).drop at_.toNat) = some r) :
    Calls Try.prog 46 #[.pointer (some ⟨g, 0, none⟩), .agg #[.int .i64 2, .int .i64 at_, .int .i64 n, .slice A4 qw.length c4, .slice A5 qb.length c5, .int .i64 wat]] w (DoesPost w0 w (.slice A0 l0.length c0) (.slice A1 l1.length c1) (.slice A2 l2.length c2) (.slice A3 l3.length c3) l0 l1 l2 l3 2 0 0 [] r) := by
  have hdC : ∀ {W : World}, Rows4 W w0.heap.size (.slice A0 l0.length c0) (.slice A1 l1.length c1) (.slice A2 l2.length c2) (.slice A3 l3.length c3) l0 l1 l2 l3 → Kd.C Kd.bool W A1 l1.length l1 := fun hr => (Kd.R_reads' hr.2.1).2.2
  have hroom : l1.length ≤ c1 := (Kd.R_reads' hD.rows.2.1).2.1
  have hXl : l1.length = l1.length := rfl
  have hjlim : l1.length ≤ 9223372036854775807 := (Kd.R_reads' hD.rows.2.1).2.2.2.1
  obtain ⟨i0, hi, hz⟩ := Option.map_eq_some_iff.1 infoDb
  simp only [Prod.mk.injEq] at hz
  obtain ⟨j, hj⟩ : ∃ j, at_ + n = j := ⟨_, rfl⟩
  have hjw : IntKind.i64.wrap (at_ + n) = j := by rw [IntKind.wrap_i64]; omega
  have hjw2 : wrap64 (at_ + n) = j := by unfold wrap64; omega
  rw [hj] at h2 hcl
  have h01 : at_ ≤ j := by omega
  have hcut := cut_mid (P := Try.prog) 22 4 .i64 .i64 Try.underlying22 hi 1 hz.2.1 A1 l1.length c1 at_ j h0 h01 h2 hroom
  have hC : ∀ {W : World}, Rows4 W w0.heap.size (.slice A0 l0.length c0) (.slice A1 l1.length c1) (.slice A2 l2.length c2) (.slice A3 l3.length c3) l0 l1 l2 l3 → Kd.C Kd.bool W (if c1 = at_.toNat then A1 else A1.map (·.add (at_.toNat * 1))) ((l1.take j.toNat).drop at_.toNat).length ((l1.take j.toNat).drop at_.toNat) := fun hr => Kd.C_mid (hdC hr) (by omega) (by omega) (by omega)
  have hl : ((l1.take j.toNat).drop at_.toNat).length = j.toNat - at_.toNat := by rw [List.length_drop, List.length_take]; omega
  have hRC : ((l1.take j.toNat).drop at_.toNat).length ≤ c1 - at_.toNat := by rw [hl]; omega
  rw [← hl] at hcut
  generalize (if c1 = at_.toNat then A1 else A1.map (·.add (at_.toNat * 1))) = AR at hcut hC
  generalize c1 - at_.toNat = cR at hcut hRC
  generalize (l1.take j.toNat).drop at_.toNat = R at hcut hC hRC hcl
  have HC : Aside0 (∀ {W : World}, Rows4 W w0.heap.size (.slice A0 l0.length c0) (.slice A1 l1.length c1) (.slice A2 l2.length c2) (.slice A3 l3.length c3) l0 l1 l2 l3 → Kd.C Kd.bool W AR R.length R) := ⟨hC⟩
  have HRC := aM hRC
  replace hcl := aM hcl
  clear hdC hroom hjlim hi hz hj h0 h1 h2 h01 hl hC hRC hXl
  have hu30 := Try.underlying30
  have hu36 := Try.underlying36
  have hu32 := Try.underlying32
  have HG := aM hb
  have HN0 := aM (hD.rows.ne0 hb (by decide))
  have HN2 := aM (hD.rows.ne2 hb (by decide))
  have HD := aM hD
  have HC4 := aM hC4
  have HC5 := aM hC5
  have Hc4 := aM hc4
  have Hc5 := aM hc5
  clear hb hD hC4 hC5 hc4 hc5
  go_enter Try.func46, Try.ntmps46
  go_wp2_with (first | ((with_reducible refine gate_dst (N := 3) rfl ?_); refine box_event ?hg (N := 3) ?hd (cs := #[.int .i64 2, .int .i64 at_, .int .i64 n, .slice A4 qw.length c4, .slice A5 qb.length c5, .int .i64 wat]) (t := 36) ?hr ?_; (case hd => rfl); (case hg => rfl); (case hr => first | (go_simp; done) | (go_simp; rfl)); intro gq hg _ hbox hb_; have HD1 := aM (HD.out.box hg hbox hb_); clear HD hg hbox hb_; have HD := HD1; clear HD1; obtain ⟨hy0, gy0, hy1, gy1, hy2, gy2, hy3, gy3, hy4, gy4, hy5, gy5⟩ := bk6 (HD.out.blk (g := gq) (cs := #[.int .i64 2, .int .i64 at_, .int .i64 n, .slice A4 qw.length c4, .slice A5 qb.length c5, .int .i64 wat]) (t := 36) (by simp))) | ((with_reducible refine gate_dst (N := 4) rfl ?_); refine box_event ?hg (N := 4) ?hd (cs := #[.int .i64 0, .int .i64 0, .int .i64 0, .int .i64 0, .slice none 0 0, .slice none 0 0]) (t := 32) ?hr ?_; (case hd => rfl); (case hg => rfl); (case hr => first | (go_simp; done) | (go_simp; rfl)); intro gr hg _ hbox hb_; have HD1 := aM (HD.out.box hg hbox hb_); clear HD hg hbox hb_; have HD := HD1; clear HD1; clear hy0 gy0 hy1 gy1 hy2 gy2 hy3 gy3 hy4 gy4 hy5 gy5; obtain ⟨hy0, gy0, hy1, gy1, hy2, gy2, hy3, gy3, hy4, gy4, hy5, gy5⟩ := bk6 (HD.out.blk (g := gq) (cs := #[.int .i64 2, .int .i64 at_, .int .i64 n, .slice A4 qw.length c4, .slice A5 qb.length c5, .int .i64 wat]) (t := 36) (by simp))) | ((with_reducible refine gate_dst (N := 5) rfl ?_); refine box_event ?hg (N := 5) ?hd (cs := #[.int .i64 0, .int .i64 0, .int .i64 0, .int .i64 0, .slice none 0 0, .slice none 0 0]) (t := 32) ?hr ?_; (case hd => rfl); (case hg => rfl); (case hr => first | (go_simp; done) | (go_simp; rfl)); intro ga hg _ hbox hb_; have HD1 := aM (HD.out.box hg hbox hb_); clear HD hg hbox hb_; have HD := HD1; clear HD1; clear hy0 gy0 hy1 gy1 hy2 gy2 hy3 gy3 hy4 gy4 hy5 gy5) | ((with_reducible refine gate_store (t := 32) (p := 5) rfl ?_); refine wpList_store_row rfl 32 (.tmp 5) (.tmp 8) rfl ga #[.int .i64 2, .int .i64 0, .int .i64 0, .int .i64 0, .slice none 0 0, .slice none 0 0] rfl rfl 32 #[.int .i64 0, .int .i64 0, .int .i64 0, .int .i64 0, .slice none 0 0, .slice none 0 0] (HD.out.blk (cs := #[.int .i64 0, .int .i64 0, .int .i64 0, .int .i64 0, .slice none 0 0, .slice none 0 0]) (t := 32) (by simp)) (by kernel_rfl) rfl (by simp [Value.oneCell']) ?_; have HD1 := aM (HD.out.row [] [(gr, #[.int .i64 0, .int .i64 0, .int .i64 0, .int .i64 0, .slice none 0 0, .slice none 0 0], 32), (gq, #[.int .i64 2, .int .i64 at_, .int .i64 n, .slice A4 qw.length c4, .slice A5 qb.length c5, .int .i64 wat], 36)] #[.int .i64 2, .int .i64 0, .int .i64 0, .int .i64 0, .slice none 0 0, .slice none 0 0]); clear HD; generalize World.setRow _ _ _ = w4 at HD1 ⊢; have HD := HD1; clear HD1; obtain ⟨hz0, fz0, hz1, fz1, hz2, fz2, hz3, fz3, hz4, fz4, hz5, fz5⟩ := bk6 (HD.out.blk (g := gq) (cs := #[.int .i64 2, .int .i64 at_, .int .i64 n, .slice A4 qw.length c4, .slice A5 qb.length c5, .int .i64 wat]) (t := 36) (by simp))))
  refine start_ (n := 15) (S := fun w' => w'.cell? ⟨g, 1, none⟩ = some (.slice A1 l1.length c1) ∧ w'.cell? ⟨gq, 1, none⟩ = some (.int .i64 at_) ∧ w'.cell? ⟨gq, 2, none⟩ = some (.int .i64 n)) (ds := []) (flg 0 15) (by kernel_rfl) rfl rfl ⟨(blk_cell ((HD.out.drew).old HG.out HN0.out HN2.out) 1).trans rfl, (blk_cell ((HD.out.drew).blk (g := gq) (cs := #[.int .i64 2, .int .i64 at_, .int .i64 n, .slice A4 qw.length c4, .slice A5 qb.length c5, .int .i64 wat]) (t := 36) (by simp)) 1).trans rfl, (blk_cell ((HD.out.drew).blk (g := gq) (cs := #[.int .i64 2, .int .i64 at_, .int .i64 n, .slice A4 qw.length c4, .slice A5 qb.length c5, .int .i64 wat]) (t := 36) (by simp)) 2).trans rfl⟩ (fun hHeld => ?_)
  have HD1 := aM HD.out.drew
  clear HD
  generalize w4.drew = w5 at HD1 hHeld ⊢
  have HD := HD1
  clear HD1
  refine pk (i := 0) (N := some 29) (flg 1 15) ?_
  refine pk (i := 1) (N := some 30) (flg 2 15) ?_
  refine pk (i := 2) (N := some 31) (flg 3 15) ?_
  refine tk3 (i := 3) (N := some 32) (flg 4 15) hHeld ?_
  refine pk (i := 4) (N := some 33) (flg 5 15) ?_
  refine tk3 (i := 5) (N := some 34) (flg 6 15) hHeld ?_
  refine pk (i := 6) (N := some 35) (flg 7 15) ?_
  refine tk3 (i := 7) (N := some 36) (flg 8 15) hHeld ?_
  refine pk (i := 8) (N := some 37) (flg 9 15) ?_
  refine tk3 (i := 9) (N := some 38) (flg 10 15) hHeld ?_
  refine pk (i := 10) (N := some 39) (flg 11 15) ?_
  refine pk (i := 11) (N := some 40) (flg 12 15) ?_
  refine one_ (i := 12) (N := some 41) (flg 13 15) rfl rfl (by kernel_rfl) (by decide) (fun K hK => ?_)
  refine goes_ Try.func65 (by kernel_rfl) rfl #[.slice AR R.length cR] (by rfl) rfl rfl (by (try simp only [List.map_toArray, List.map_cons, List.map_nil]); first | done | rfl) ?_
  refine (impl_filled.calls k AR cR R r _ (HC.out HD.out.rows) HRC.out hcl.out).mono ?_
  rintro e w6 ⟨v6, rfl, ho, hb_⟩
  refine ⟨_, rfl, ?_⟩
  have HV := aM (Kd.R_lower ho HD.out.2.2.2.2.1)
  have HD1 := aM (HD.out.below hb_)
  clear ho hb_ HD
  have HD := HD1
  clear HD1
  obtain ⟨Av, cv, ev⟩ := Kd.R_slice HV.out
  subst ev
  refine hK.out _ _ ⟨(blk_cell ((HD.out).old HG.out HN0.out HN2.out) 1).trans rfl, (blk_cell ((HD.out).blk (g := gq) (cs := #[.int .i64 2, .int .i64 at_, .int .i64 n, .slice A4 qw.length c4, .slice A5 qb.length c5, .int .i64 wat]) (t := 36) (by simp)) 1).trans rfl, (blk_cell ((HD.out).blk (g := gq) (cs := #[.int .i64 2, .int .i64 at_, .int .i64 n, .slice A4 qw.length c4, .slice A5 qb.length c5, .int .i64 wat]) (t := 36) (by simp)) 2).trans rfl⟩ (fun hHeld => ?_)
  clear hK K
  refine norm_ (a' := ?_) ?_ ?_
  rotate_left
  · show Act.put _ (some 41) _ = _
    simp only [Act.put, List.setIfInBounds_toArray, List.set_cons_zero, List.set_cons_succ, i64_w, i32_w]
    rfl
  refine pk (i := 13) (N := some 42) (flg 14 15) ?_
  refine one_ (i := 14) (N := none) (flg 15 15) rfl rfl (by kernel_rfl) (by decide) (fun K hK => ?_)
  obtain ⟨hx0, fx0, hx1, fx1, hx2, fx2, hx3, fx3, hx4, fx4, hx5, fx5⟩ := bk6 (HD.out.blk (g := ga) (cs := #[.int .i64 2, .int .i64 0, .int .i64 0, .int .i64 0, .slice none 0 0, .slice none 0 0]) (t := 32) (by simp))
  refine skip_ (w1 := ?_) (by rfl) rfl ?_ ?_
  rotate_left
  · go_simp
    rfl
  have HV1 := aM (R_cell_ HV.out (HD.out.blk (g := ga) (cs := #[.int .i64 2, .int .i64 0, .int .i64 0, .int .i64 0, .slice none 0 0, .slice none 0 0]) (t := 32) (by simp)) (by decide) 5 (.slice Av r.length cv))
  have HD1 := aM (HD.out.cell [] [(gr, #[.int .i64 0, .int .i64 0, .int .i64 0, .int .i64 0, .slice none 0 0, .slice none 0 0], 32), (gq, #[.int .i64 2, .int .i64 at_, .int .i64 n, .slice A4 qw.length c4, .slice A5 qb.length c5, .int .i64 wat], 36)] (cs := #[.int .i64 2, .int .i64 0, .int .i64 0, .int .i64 0, .slice none 0 0, .slice none 0 0]) (cs' := #[.int .i64 2, .int .i64 0, .int .i64 0, .int .i64 0, .slice none 0 0, .slice Av r.length cv]) 5 (.slice Av r.length cv))
  clear HV HD hx0 fx0 hx1 fx1 hx2 fx2 hx3 fx3 hx4 fx4 hx5 fx5
  generalize World.setCell _ _ _ = w7 at HV1 HD1 ⊢
  have HV := HV1
  clear HV1
  have HD := HD1
  clear HD1
  refine hK.out _ _ ⟨(blk_cell ((HD.out).old HG.out HN0.out HN2.out) 1).trans rfl, (blk_cell ((HD.out).blk (g := gq) (cs := #[.int .i64 2, .int .i64 at_, .int .i64 n, .slice A4 qw.length c4, .slice A5 qb.length c5, .int .i64 wat]) (t := 36) (by simp)) 1).trans rfl, (blk_cell ((HD.out).blk (g := gq) (cs := #[.int .i64 2, .int .i64 at_, .int .i64 n, .slice A4 qw.length c4, .slice A5 qb.length c5, .int .i64 wat]) (t := 36) (by simp)) 2).trans rfl⟩ (fun hHeld => ?_)
  clear hK K
  refine done_ (by kernel_rfl) ?_
  clear hz0 fz0 hz1 fz1 hz2 fz2 hz3 fz3 hz4 fz4 hz5 fz5
  obtain ⟨hz0, fz0, hz1, fz1, hz2, fz2, hz3, fz3, hz4, fz4, hz5, fz5⟩ := bk6 (HD.out.blk (g := gq) (cs := #[.int .i64 2, .int .i64 at_, .int .i64 n, .slice A4 qw.length c4, .slice A5 qb.length c5, .int .i64 wat]) (t := 36) (by simp))
  go_wp2_with (first | ((with_reducible refine gate_dst (N := 188) rfl ?_); refine wpList_load_row rfl 32 (.tmp 5) rfl ga rfl 32 #[.int .i64 2, .int .i64 0, .int .i64 0, .int .i64 0, .slice none 0 0, .slice Av r.length cv] (0, 0) _ (HD.out.blk (by simp)) hu32 rfl (by kernel_rfl) ?_) | ((with_reducible refine gate_store (t := 32) (p := 4) rfl ?_); refine wpList_store_row rfl 32 (.tmp 4) (.tmp 188) rfl gr #[.int .i64 2, .int .i64 0, .int .i64 0, .int .i64 0, .slice none 0 0, .slice Av r.length cv] rfl rfl 32 #[.int .i64 0, .int .i64 0, .int .i64 0, .int .i64 0, .slice none 0 0, .slice none 0 0] (HD.out.blk (cs := #[.int .i64 0, .int .i64 0, .int .i64 0, .int .i64 0, .slice none 0 0, .slice none 0 0]) (t := 32) (by simp)) (by kernel_rfl) rfl (by simp [Value.oneCell']) ?_; have HD1 := aM (HD.out.row [(ga, #[.int .i64 2, .int .i64 0, .int .i64 0, .int .i64 0, .slice none 0 0, .slice Av r.length cv], 32)] [(gq, #[.int .i64 2, .int .i64 at_, .int .i64 n, .slice A4 qw.length c4, .slice A5 qb.length c5, .int .i64 wat], 36)] #[.int .i64 2, .int .i64 0, .int .i64 0, .int .i64 0, .slice none 0 0, .slice Av r.length cv]); (try (have HV1 := aM (R_row HV.out (HD.out.blk (g := gr) (cs := #[.int .i64 0, .int .i64 0, .int .i64 0, .int .i64 0, .slice none 0 0, .slice none 0 0]) (t := 32) (by simp)) (by decide) #[.int .i64 2, .int .i64 0, .int .i64 0, .int .i64 0, .slice none 0 0, .slice Av r.length cv]); clear HV; have HV := HV1; clear HV1)); (try (have HV1 := aM (R_row HV2.out (HD.out.blk (g := gr) (cs := #[.int .i64 0, .int .i64 0, .int .i64 0, .int .i64 0, .slice none 0 0, .slice none 0 0]) (t := 32) (by simp)) (by decide) #[.int .i64 2, .int .i64 0, .int .i64 0, .int .i64 0, .slice none 0 0, .slice Av r.length cv]); clear HV2; have HV2 := HV1; clear HV1)); clear HD; have HD := HD1; clear HD1))
  refine bodyPost_ret (results_cell_row rfl _ _ gr 32 #[.int .i64 2, .int .i64 0, .int .i64 0, .int .i64 0, .slice none 0 0, .slice Av r.length cv] (0, 0) _ rfl (HD.out.blk (by simp)) hu32 rfl (by kernel_rfl)) rfl ?_
  exact ⟨_, _, rfl, HD.out.rows, Kd.R_nil _ _ _ _ _, HV.out, HD.out.2.2.2.1, HD.out.2.2.2.2⟩
set_option maxHeartbeats 4000000 in
set_option maxRecDepth 100000 in
theorem does_3 (g : Nat) (A0 A1 A2 A3 : Option Addr) (c0 c1 c2 c3 : Nat) (l0 l1 : List Bool) (l2 l3 : List Int) (at_ n wat : Int) (A4 A5 : Option Addr) (c4 c5 : Nat) (qw : List Int) (qb : List Bool) (w0 w : World)
    (hb : w.heap[g]? = some (.cells #[.slice A0 l0.length c0, .slice A1 l1.length c1, .slice A2 l2.length c2, .slice A3 l3.length c3] 30 (0, 0))) (hD : DX w0 w w [] (.slice A0 l0.length c0) (.slice A1 l1.length c1) (.slice A2 l2.length c2) (.slice A3 l3.length c3) l0 l1 l2 l3) (hC4 : Kd.C (Kd.int .i64) w0 A4 qw.length qw) (hc4 : qw.length ≤ c4) (hC5 : Kd.C Kd.bool w0 A5 qb.length qb) (hc5 : qb.length ≤ c5)
    (h0 : 0 ≤ at_) (h1 : 0 ≤ n) (h2 : at_ + n ≤ (l2.length : Int)) (r : List Int) (hcl : slices_Clone_int_int.f ((l2.take (at_ + n).toNat).drop at_.toNat) = some r) :
    Calls Try.prog 46 #[.pointer (some ⟨g, 0, none⟩), .agg #[.int .i64 3, .int .i64 at_, .int .i64 n, .slice A4 qw.length c4, .slice A5 qb.length c5, .int .i64 wat]] w (DoesPost w0 w (.slice A0 l0.length c0) (.slice A1 l1.length c1) (.slice A2 l2.length c2) (.slice A3 l3.length c3) l0 l1 l2 l3 3 0 0 r []) := by
  have hdC : ∀ {W : World}, Rows4 W w0.heap.size (.slice A0 l0.length c0) (.slice A1 l1.length c1) (.slice A2 l2.length c2) (.slice A3 l3.length c3) l0 l1 l2 l3 → Kd.C (Kd.int .i64) W A2 l2.length l2 := fun hr => (Kd.R_reads' hr.2.2.1).2.2
  have hroom : l2.length ≤ c2 := (Kd.R_reads' hD.rows.2.2.1).2.1
  have hXl : l2.length = l2.length := rfl
  have hjlim : l2.length ≤ 9223372036854775807 := (Kd.R_reads' hD.rows.2.2.1).2.2.2.1
  obtain ⟨i0, hi, hz⟩ := Option.map_eq_some_iff.1 infoDi
  simp only [Prod.mk.injEq] at hz
  obtain ⟨j, hj⟩ : ∃ j, at_ + n = j := ⟨_, rfl⟩
  have hjw : IntKind.i64.wrap (at_ + n) = j := by rw [IntKind.wrap_i64]; omega
  have hjw2 : wrap64 (at_ + n) = j := by unfold wrap64; omega
  rw [hj] at h2 hcl
  have h01 : at_ ≤ j := by omega
  have hcut := cut_mid (P := Try.prog) 23 3 .i64 .i64 Try.underlying23 hi 1 hz.2.1 A2 l2.length c2 at_ j h0 h01 h2 hroom
  have hC : ∀ {W : World}, Rows4 W w0.heap.size (.slice A0 l0.length c0) (.slice A1 l1.length c1) (.slice A2 l2.length c2) (.slice A3 l3.length c3) l0 l1 l2 l3 → Kd.C (Kd.int .i64) W (if c2 = at_.toNat then A2 else A2.map (·.add (at_.toNat * 1))) ((l2.take j.toNat).drop at_.toNat).length ((l2.take j.toNat).drop at_.toNat) := fun hr => Kd.C_mid (hdC hr) (by omega) (by omega) (by omega)
  have hl : ((l2.take j.toNat).drop at_.toNat).length = j.toNat - at_.toNat := by rw [List.length_drop, List.length_take]; omega
  have hRC : ((l2.take j.toNat).drop at_.toNat).length ≤ c2 - at_.toNat := by rw [hl]; omega
  rw [← hl] at hcut
  generalize (if c2 = at_.toNat then A2 else A2.map (·.add (at_.toNat * 1))) = AR at hcut hC
  generalize c2 - at_.toNat = cR at hcut hRC
  generalize (l2.take j.toNat).drop at_.toNat = R at hcut hC hRC hcl
  have HC : Aside0 (∀ {W : World}, Rows4 W w0.heap.size (.slice A0 l0.length c0) (.slice A1 l1.length c1) (.slice A2 l2.length c2) (.slice A3 l3.length c3) l0 l1 l2 l3 → Kd.C (Kd.int .i64) W AR R.length R) := ⟨hC⟩
  have HRC := aM hRC
  replace hcl := aM hcl
  clear hdC hroom hjlim hi hz hj h0 h1 h2 h01 hl hC hRC hXl
  have hu30 := Try.underlying30
  have hu36 := Try.underlying36
  have hu32 := Try.underlying32
  have HG := aM hb
  have HN0 := aM (hD.rows.ne0 hb (by decide))
  have HN2 := aM (hD.rows.ne2 hb (by decide))
  have HD := aM hD
  have HC4 := aM hC4
  have HC5 := aM hC5
  have Hc4 := aM hc4
  have Hc5 := aM hc5
  clear hb hD hC4 hC5 hc4 hc5
  go_enter Try.func46, Try.ntmps46
  go_wp2_with (first | ((with_reducible refine gate_dst (N := 3) rfl ?_); refine box_event ?hg (N := 3) ?hd (cs := #[.int .i64 3, .int .i64 at_, .int .i64 n, .slice A4 qw.length c4, .slice A5 qb.length c5, .int .i64 wat]) (t := 36) ?hr ?_; (case hd => rfl); (case hg => rfl); (case hr => first | (go_simp; done) | (go_simp; rfl)); intro gq hg _ hbox hb_; have HD1 := aM (HD.out.box hg hbox hb_); clear HD hg hbox hb_; have HD := HD1; clear HD1; obtain ⟨hy0, gy0, hy1, gy1, hy2, gy2, hy3, gy3, hy4, gy4, hy5, gy5⟩ := bk6 (HD.out.blk (g := gq) (cs := #[.int .i64 3, .int .i64 at_, .int .i64 n, .slice A4 qw.length c4, .slice A5 qb.length c5, .int .i64 wat]) (t := 36) (by simp))) | ((with_reducible refine gate_dst (N := 4) rfl ?_); refine box_event ?hg (N := 4) ?hd (cs := #[.int .i64 0, .int .i64 0, .int .i64 0, .int .i64 0, .slice none 0 0, .slice none 0 0]) (t := 32) ?hr ?_; (case hd => rfl); (case hg => rfl); (case hr => first | (go_simp; done) | (go_simp; rfl)); intro gr hg _ hbox hb_; have HD1 := aM (HD.out.box hg hbox hb_); clear HD hg hbox hb_; have HD := HD1; clear HD1; clear hy0 gy0 hy1 gy1 hy2 gy2 hy3 gy3 hy4 gy4 hy5 gy5; obtain ⟨hy0, gy0, hy1, gy1, hy2, gy2, hy3, gy3, hy4, gy4, hy5, gy5⟩ := bk6 (HD.out.blk (g := gq) (cs := #[.int .i64 3, .int .i64 at_, .int .i64 n, .slice A4 qw.length c4, .slice A5 qb.length c5, .int .i64 wat]) (t := 36) (by simp))) | ((with_reducible refine gate_dst (N := 5) rfl ?_); refine box_event ?hg (N := 5) ?hd (cs := #[.int .i64 0, .int .i64 0, .int .i64 0, .int .i64 0, .slice none 0 0, .slice none 0 0]) (t := 32) ?hr ?_; (case hd => rfl); (case hg => rfl); (case hr => first | (go_simp; done) | (go_simp; rfl)); intro ga hg _ hbox hb_; have HD1 := aM (HD.out.box hg hbox hb_); clear HD hg hbox hb_; have HD := HD1; clear HD1; clear hy0 gy0 hy1 gy1 hy2 gy2 hy3 gy3 hy4 gy4 hy5 gy5) | ((with_reducible refine gate_store (t := 32) (p := 5) rfl ?_); refine wpList_store_row rfl 32 (.tmp 5) (.tmp 8) rfl ga #[.int .i64 3, .int .i64 0, .int .i64 0, .int .i64 0, .slice none 0 0, .slice none 0 0] rfl rfl 32 #[.int .i64 0, .int .i64 0, .int .i64 0, .int .i64 0, .slice none 0 0, .slice none 0 0] (HD.out.blk (cs := #[.int .i64 0, .int .i64 0, .int .i64 0, .int .i64 0, .slice none 0 0, .slice none 0 0]) (t := 32) (by simp)) (by kernel_rfl) rfl (by simp [Value.oneCell']) ?_; have HD1 := aM (HD.out.row [] [(gr, #[.int .i64 0, .int .i64 0, .int .i64 0, .int .i64 0, .slice none 0 0, .slice none 0 0], 32), (gq, #[.int .i64 3, .int .i64 at_, .int .i64 n, .slice A4 qw.length c4, .slice A5 qb.length c5, .int .i64 wat], 36)] #[.int .i64 3, .int .i64 0, .int .i64 0, .int .i64 0, .slice none 0 0, .slice none 0 0]); clear HD; generalize World.setRow _ _ _ = w4 at HD1 ⊢; have HD := HD1; clear HD1; obtain ⟨hz0, fz0, hz1, fz1, hz2, fz2, hz3, fz3, hz4, fz4, hz5, fz5⟩ := bk6 (HD.out.blk (g := gq) (cs := #[.int .i64 3, .int .i64 at_, .int .i64 n, .slice A4 qw.length c4, .slice A5 qb.length c5, .int .i64 wat]) (t := 36) (by simp))))
  refine start_ (n := 15) (S := fun w' => w'.cell? ⟨g, 2, none⟩ = some (.slice A2 l2.length c2) ∧ w'.cell? ⟨gq, 1, none⟩ = some (.int .i64 at_) ∧ w'.cell? ⟨gq, 2, none⟩ = some (.int .i64 n)) (ds := []) (flg 0 15) (by kernel_rfl) rfl rfl ⟨(blk_cell ((HD.out.drew).old HG.out HN0.out HN2.out) 2).trans rfl, (blk_cell ((HD.out.drew).blk (g := gq) (cs := #[.int .i64 3, .int .i64 at_, .int .i64 n, .slice A4 qw.length c4, .slice A5 qb.length c5, .int .i64 wat]) (t := 36) (by simp)) 1).trans rfl, (blk_cell ((HD.out.drew).blk (g := gq) (cs := #[.int .i64 3, .int .i64 at_, .int .i64 n, .slice A4 qw.length c4, .slice A5 qb.length c5, .int .i64 wat]) (t := 36) (by simp)) 2).trans rfl⟩ (fun hHeld => ?_)
  have HD1 := aM HD.out.drew
  clear HD
  generalize w4.drew = w5 at HD1 hHeld ⊢
  have HD := HD1
  clear HD1
  refine pk (i := 0) (N := some 45) (flg 1 15) ?_
  refine pk (i := 1) (N := some 46) (flg 2 15) ?_
  refine pk (i := 2) (N := some 47) (flg 3 15) ?_
  refine tk3 (i := 3) (N := some 48) (flg 4 15) hHeld ?_
  refine pk (i := 4) (N := some 49) (flg 5 15) ?_
  refine tk3 (i := 5) (N := some 50) (flg 6 15) hHeld ?_
  refine pk (i := 6) (N := some 51) (flg 7 15) ?_
  refine tk3 (i := 7) (N := some 52) (flg 8 15) hHeld ?_
  refine pk (i := 8) (N := some 53) (flg 9 15) ?_
  refine tk3 (i := 9) (N := some 54) (flg 10 15) hHeld ?_
  refine pk (i := 10) (N := some 55) (flg 11 15) ?_
  refine pk (i := 11) (N := some 56) (flg 12 15) ?_
  refine one_ (i := 12) (N := some 57) (flg 13 15) rfl rfl (by kernel_rfl) (by decide) (fun K hK => ?_)
  refine goes_ Try.func59 (by kernel_rfl) rfl #[.slice AR R.length cR] (by rfl) rfl rfl (by (try simp only [List.map_toArray, List.map_cons, List.map_nil]); first | done | rfl) ?_
  refine (slices_Clone_int_int.calls AR cR R r _ (HC.out HD.out.rows) HRC.out hcl.out).mono ?_
  rintro e w6 ⟨v6, rfl, ho, hb_⟩
  refine ⟨_, rfl, ?_⟩
  have HV := aM (Kd.R_lower ho HD.out.2.2.2.2.1)
  have HD1 := aM (HD.out.below hb_)
  clear ho hb_ HD
  have HD := HD1
  clear HD1
  obtain ⟨Av, cv, ev⟩ := Kd.R_slice HV.out
  subst ev
  refine hK.out _ _ ⟨(blk_cell ((HD.out).old HG.out HN0.out HN2.out) 2).trans rfl, (blk_cell ((HD.out).blk (g := gq) (cs := #[.int .i64 3, .int .i64 at_, .int .i64 n, .slice A4 qw.length c4, .slice A5 qb.length c5, .int .i64 wat]) (t := 36) (by simp)) 1).trans rfl, (blk_cell ((HD.out).blk (g := gq) (cs := #[.int .i64 3, .int .i64 at_, .int .i64 n, .slice A4 qw.length c4, .slice A5 qb.length c5, .int .i64 wat]) (t := 36) (by simp)) 2).trans rfl⟩ (fun hHeld => ?_)
  clear hK K
  refine norm_ (a' := ?_) ?_ ?_
  rotate_left
  · show Act.put _ (some 57) _ = _
    simp only [Act.put, List.setIfInBounds_toArray, List.set_cons_zero, List.set_cons_succ, i64_w, i32_w]
    rfl
  refine pk (i := 13) (N := some 58) (flg 14 15) ?_
  refine one_ (i := 14) (N := none) (flg 15 15) rfl rfl (by kernel_rfl) (by decide) (fun K hK => ?_)
  obtain ⟨hx0, fx0, hx1, fx1, hx2, fx2, hx3, fx3, hx4, fx4, hx5, fx5⟩ := bk6 (HD.out.blk (g := ga) (cs := #[.int .i64 3, .int .i64 0, .int .i64 0, .int .i64 0, .slice none 0 0, .slice none 0 0]) (t := 32) (by simp))
  refine skip_ (w1 := ?_) (by rfl) rfl ?_ ?_
  rotate_left
  · go_simp
    rfl
  have HV1 := aM (R_cell_ HV.out (HD.out.blk (g := ga) (cs := #[.int .i64 3, .int .i64 0, .int .i64 0, .int .i64 0, .slice none 0 0, .slice none 0 0]) (t := 32) (by simp)) (by decide) 4 (.slice Av r.length cv))
  have HD1 := aM (HD.out.cell [] [(gr, #[.int .i64 0, .int .i64 0, .int .i64 0, .int .i64 0, .slice none 0 0, .slice none 0 0], 32), (gq, #[.int .i64 3, .int .i64 at_, .int .i64 n, .slice A4 qw.length c4, .slice A5 qb.length c5, .int .i64 wat], 36)] (cs := #[.int .i64 3, .int .i64 0, .int .i64 0, .int .i64 0, .slice none 0 0, .slice none 0 0]) (cs' := #[.int .i64 3, .int .i64 0, .int .i64 0, .int .i64 0, .slice Av r.length cv, .slice none 0 0]) 4 (.slice Av r.length cv))
  clear HV HD hx0 fx0 hx1 fx1 hx2 fx2 hx3 fx3 hx4 fx4 hx5 fx5
  generalize World.setCell _ _ _ = w7 at HV1 HD1 ⊢
  have HV := HV1
  clear HV1
  have HD := HD1
  clear HD1
  refine hK.out _ _ ⟨(blk_cell ((HD.out).old HG.out HN0.out HN2.out) 2).trans rfl, (blk_cell ((HD.out).blk (g := gq) (cs := #[.int .i64 3, .int .i64 at_, .int .i64 n, .slice A4 qw.length c4, .slice A5 qb.length c5, .int .i64 wat]) (t := 36) (by simp)) 1).trans rfl, (blk_cell ((HD.out).blk (g := gq) (cs := #[.int .i64 3, .int .i64 at_, .int .i64 n, .slice A4 qw.length c4, .slice A5 qb.length c5, .int .i64 wat]) (t := 36) (by simp)) 2).trans rfl⟩ (fun hHeld => ?_)
  clear hK K
  refine done_ (by kernel_rfl) ?_
  clear hz0 fz0 hz1 fz1 hz2 fz2 hz3 fz3 hz4 fz4 hz5 fz5
  obtain ⟨hz0, fz0, hz1, fz1, hz2, fz2, hz3, fz3, hz4, fz4, hz5, fz5⟩ := bk6 (HD.out.blk (g := gq) (cs := #[.int .i64 3, .int .i64 at_, .int .i64 n, .slice A4 qw.length c4, .slice A5 qb.length c5, .int .i64 wat]) (t := 36) (by simp))
  go_wp2_with (first | ((with_reducible refine gate_dst (N := 188) rfl ?_); refine wpList_load_row rfl 32 (.tmp 5) rfl ga rfl 32 #[.int .i64 3, .int .i64 0, .int .i64 0, .int .i64 0, .slice Av r.length cv, .slice none 0 0] (0, 0) _ (HD.out.blk (by simp)) hu32 rfl (by kernel_rfl) ?_) | ((with_reducible refine gate_store (t := 32) (p := 4) rfl ?_); refine wpList_store_row rfl 32 (.tmp 4) (.tmp 188) rfl gr #[.int .i64 3, .int .i64 0, .int .i64 0, .int .i64 0, .slice Av r.length cv, .slice none 0 0] rfl rfl 32 #[.int .i64 0, .int .i64 0, .int .i64 0, .int .i64 0, .slice none 0 0, .slice none 0 0] (HD.out.blk (cs := #[.int .i64 0, .int .i64 0, .int .i64 0, .int .i64 0, .slice none 0 0, .slice none 0 0]) (t := 32) (by simp)) (by kernel_rfl) rfl (by simp [Value.oneCell']) ?_; have HD1 := aM (HD.out.row [(ga, #[.int .i64 3, .int .i64 0, .int .i64 0, .int .i64 0, .slice Av r.length cv, .slice none 0 0], 32)] [(gq, #[.int .i64 3, .int .i64 at_, .int .i64 n, .slice A4 qw.length c4, .slice A5 qb.length c5, .int .i64 wat], 36)] #[.int .i64 3, .int .i64 0, .int .i64 0, .int .i64 0, .slice Av r.length cv, .slice none 0 0]); (try (have HV1 := aM (R_row HV.out (HD.out.blk (g := gr) (cs := #[.int .i64 0, .int .i64 0, .int .i64 0, .int .i64 0, .slice none 0 0, .slice none 0 0]) (t := 32) (by simp)) (by decide) #[.int .i64 3, .int .i64 0, .int .i64 0, .int .i64 0, .slice Av r.length cv, .slice none 0 0]); clear HV; have HV := HV1; clear HV1)); (try (have HV1 := aM (R_row HV2.out (HD.out.blk (g := gr) (cs := #[.int .i64 0, .int .i64 0, .int .i64 0, .int .i64 0, .slice none 0 0, .slice none 0 0]) (t := 32) (by simp)) (by decide) #[.int .i64 3, .int .i64 0, .int .i64 0, .int .i64 0, .slice Av r.length cv, .slice none 0 0]); clear HV2; have HV2 := HV1; clear HV1)); clear HD; have HD := HD1; clear HD1))
  refine bodyPost_ret (results_cell_row rfl _ _ gr 32 #[.int .i64 3, .int .i64 0, .int .i64 0, .int .i64 0, .slice Av r.length cv, .slice none 0 0] (0, 0) _ rfl (HD.out.blk (by simp)) hu32 rfl (by kernel_rfl)) rfl ?_
  exact ⟨_, _, rfl, HD.out.rows, HV.out, Kd.R_nil _ _ _ _ _, HD.out.2.2.2.1, HD.out.2.2.2.2⟩
set_option maxHeartbeats 4000000 in
set_option maxRecDepth 100000 in
theorem does_4 (g : Nat) (A0 A1 A2 A3 : Option Addr) (c0 c1 c2 c3 : Nat) (l0 l1 : List Bool) (l2 l3 : List Int) (at_ n wat : Int) (A4 A5 : Option Addr) (c4 c5 : Nat) (qw : List Int) (qb : List Bool) (w0 w : World)
    (hb : w.heap[g]? = some (.cells #[.slice A0 l0.length c0, .slice A1 l1.length c1, .slice A2 l2.length c2, .slice A3 l3.length c3] 30 (0, 0))) (hD : DX w0 w w [] (.slice A0 l0.length c0) (.slice A1 l1.length c1) (.slice A2 l2.length c2) (.slice A3 l3.length c3) l0 l1 l2 l3) (hC4 : Kd.C (Kd.int .i64) w0 A4 qw.length qw) (hc4 : qw.length ≤ c4) (hC5 : Kd.C Kd.bool w0 A5 qb.length qb) (hc5 : qb.length ≤ c5)
    (h0 : 0 ≤ at_) (h1 : 0 ≤ n) (h2 : at_ + n ≤ (l3.length : Int)) (r : List Int) (hcl : slices_Clone_int_int.f ((l3.take (at_ + n).toNat).drop at_.toNat) = some r) :
    Calls Try.prog 46 #[.pointer (some ⟨g, 0, none⟩), .agg #[.int .i64 4, .int .i64 at_, .int .i64 n, .slice A4 qw.length c4, .slice A5 qb.length c5, .int .i64 wat]] w (DoesPost w0 w (.slice A0 l0.length c0) (.slice A1 l1.length c1) (.slice A2 l2.length c2) (.slice A3 l3.length c3) l0 l1 l2 l3 4 0 0 r []) := by
  have hdC : ∀ {W : World}, Rows4 W w0.heap.size (.slice A0 l0.length c0) (.slice A1 l1.length c1) (.slice A2 l2.length c2) (.slice A3 l3.length c3) l0 l1 l2 l3 → Kd.C (Kd.int .i64) W A3 l3.length l3 := fun hr => (Kd.R_reads' hr.2.2.2).2.2
  have hroom : l3.length ≤ c3 := (Kd.R_reads' hD.rows.2.2.2).2.1
  have hXl : l3.length = l3.length := rfl
  have hjlim : l3.length ≤ 9223372036854775807 := (Kd.R_reads' hD.rows.2.2.2).2.2.2.1
  obtain ⟨i0, hi, hz⟩ := Option.map_eq_some_iff.1 infoDi
  simp only [Prod.mk.injEq] at hz
  obtain ⟨j, hj⟩ : ∃ j, at_ + n = j := ⟨_, rfl⟩
  have hjw : IntKind.i64.wrap (at_ + n) = j := by rw [IntKind.wrap_i64]; omega
  have hjw2 : wrap64 (at_ + n) = j := by unfold wrap64; omega
  rw [hj] at h2 hcl
  have h01 : at_ ≤ j := by omega
  have hcut := cut_mid (P := Try.prog) 23 3 .i64 .i64 Try.underlying23 hi 1 hz.2.1 A3 l3.length c3 at_ j h0 h01 h2 hroom
  have hC : ∀ {W : World}, Rows4 W w0.heap.size (.slice A0 l0.length c0) (.slice A1 l1.length c1) (.slice A2 l2.length c2) (.slice A3 l3.length c3) l0 l1 l2 l3 → Kd.C (Kd.int .i64) W (if c3 = at_.toNat then A3 else A3.map (·.add (at_.toNat * 1))) ((l3.take j.toNat).drop at_.toNat).length ((l3.take j.toNat).drop at_.toNat) := fun hr => Kd.C_mid (hdC hr) (by omega) (by omega) (by omega)
  have hl : ((l3.take j.toNat).drop at_.toNat).length = j.toNat - at_.toNat := by rw [List.length_drop, List.length_take]; omega
  have hRC : ((l3.take j.toNat).drop at_.toNat).length ≤ c3 - at_.toNat := by rw [hl]; omega
  rw [← hl] at hcut
  generalize (if c3 = at_.toNat then A3 else A3.map (·.add (at_.toNat * 1))) = AR at hcut hC
  generalize c3 - at_.toNat = cR at hcut hRC
  generalize (l3.take j.toNat).drop at_.toNat = R at hcut hC hRC hcl
  have HC : Aside0 (∀ {W : World}, Rows4 W w0.heap.size (.slice A0 l0.length c0) (.slice A1 l1.length c1) (.slice A2 l2.length c2) (.slice A3 l3.length c3) l0 l1 l2 l3 → Kd.C (Kd.int .i64) W AR R.length R) := ⟨hC⟩
  have HRC := aM hRC
  replace hcl := aM hcl
  clear hdC hroom hjlim hi hz hj h0 h1 h2 h01 hl hC hRC hXl
  have hu30 := Try.underlying30
  have hu36 := Try.underlying36
  have hu32 := Try.underlying32
  have HG := aM hb
  have HN0 := aM (hD.rows.ne0 hb (by decide))
  have HN2 := aM (hD.rows.ne2 hb (by decide))
  have HD := aM hD
  have HC4 := aM hC4
  have HC5 := aM hC5
  have Hc4 := aM hc4
  have Hc5 := aM hc5
  clear hb hD hC4 hC5 hc4 hc5
  go_enter Try.func46, Try.ntmps46
  go_wp2_with (first | ((with_reducible refine gate_dst (N := 3) rfl ?_); refine box_event ?hg (N := 3) ?hd (cs := #[.int .i64 4, .int .i64 at_, .int .i64 n, .slice A4 qw.length c4, .slice A5 qb.length c5, .int .i64 wat]) (t := 36) ?hr ?_; (case hd => rfl); (case hg => rfl); (case hr => first | (go_simp; done) | (go_simp; rfl)); intro gq hg _ hbox hb_; have HD1 := aM (HD.out.box hg hbox hb_); clear HD hg hbox hb_; have HD := HD1; clear HD1; obtain ⟨hy0, gy0, hy1, gy1, hy2, gy2, hy3, gy3, hy4, gy4, hy5, gy5⟩ := bk6 (HD.out.blk (g := gq) (cs := #[.int .i64 4, .int .i64 at_, .int .i64 n, .slice A4 qw.length c4, .slice A5 qb.length c5, .int .i64 wat]) (t := 36) (by simp))) | ((with_reducible refine gate_dst (N := 4) rfl ?_); refine box_event ?hg (N := 4) ?hd (cs := #[.int .i64 0, .int .i64 0, .int .i64 0, .int .i64 0, .slice none 0 0, .slice none 0 0]) (t := 32) ?hr ?_; (case hd => rfl); (case hg => rfl); (case hr => first | (go_simp; done) | (go_simp; rfl)); intro gr hg _ hbox hb_; have HD1 := aM (HD.out.box hg hbox hb_); clear HD hg hbox hb_; have HD := HD1; clear HD1; clear hy0 gy0 hy1 gy1 hy2 gy2 hy3 gy3 hy4 gy4 hy5 gy5; obtain ⟨hy0, gy0, hy1, gy1, hy2, gy2, hy3, gy3, hy4, gy4, hy5, gy5⟩ := bk6 (HD.out.blk (g := gq) (cs := #[.int .i64 4, .int .i64 at_, .int .i64 n, .slice A4 qw.length c4, .slice A5 qb.length c5, .int .i64 wat]) (t := 36) (by simp))) | ((with_reducible refine gate_dst (N := 5) rfl ?_); refine box_event ?hg (N := 5) ?hd (cs := #[.int .i64 0, .int .i64 0, .int .i64 0, .int .i64 0, .slice none 0 0, .slice none 0 0]) (t := 32) ?hr ?_; (case hd => rfl); (case hg => rfl); (case hr => first | (go_simp; done) | (go_simp; rfl)); intro ga hg _ hbox hb_; have HD1 := aM (HD.out.box hg hbox hb_); clear HD hg hbox hb_; have HD := HD1; clear HD1; clear hy0 gy0 hy1 gy1 hy2 gy2 hy3 gy3 hy4 gy4 hy5 gy5) | ((with_reducible refine gate_store (t := 32) (p := 5) rfl ?_); refine wpList_store_row rfl 32 (.tmp 5) (.tmp 8) rfl ga #[.int .i64 4, .int .i64 0, .int .i64 0, .int .i64 0, .slice none 0 0, .slice none 0 0] rfl rfl 32 #[.int .i64 0, .int .i64 0, .int .i64 0, .int .i64 0, .slice none 0 0, .slice none 0 0] (HD.out.blk (cs := #[.int .i64 0, .int .i64 0, .int .i64 0, .int .i64 0, .slice none 0 0, .slice none 0 0]) (t := 32) (by simp)) (by kernel_rfl) rfl (by simp [Value.oneCell']) ?_; have HD1 := aM (HD.out.row [] [(gr, #[.int .i64 0, .int .i64 0, .int .i64 0, .int .i64 0, .slice none 0 0, .slice none 0 0], 32), (gq, #[.int .i64 4, .int .i64 at_, .int .i64 n, .slice A4 qw.length c4, .slice A5 qb.length c5, .int .i64 wat], 36)] #[.int .i64 4, .int .i64 0, .int .i64 0, .int .i64 0, .slice none 0 0, .slice none 0 0]); clear HD; generalize World.setRow _ _ _ = w4 at HD1 ⊢; have HD := HD1; clear HD1; obtain ⟨hz0, fz0, hz1, fz1, hz2, fz2, hz3, fz3, hz4, fz4, hz5, fz5⟩ := bk6 (HD.out.blk (g := gq) (cs := #[.int .i64 4, .int .i64 at_, .int .i64 n, .slice A4 qw.length c4, .slice A5 qb.length c5, .int .i64 wat]) (t := 36) (by simp))))
  refine start_ (n := 15) (S := fun w' => w'.cell? ⟨g, 3, none⟩ = some (.slice A3 l3.length c3) ∧ w'.cell? ⟨gq, 1, none⟩ = some (.int .i64 at_) ∧ w'.cell? ⟨gq, 2, none⟩ = some (.int .i64 n)) (ds := []) (flg 0 15) (by kernel_rfl) rfl rfl ⟨(blk_cell ((HD.out.drew).old HG.out HN0.out HN2.out) 3).trans rfl, (blk_cell ((HD.out.drew).blk (g := gq) (cs := #[.int .i64 4, .int .i64 at_, .int .i64 n, .slice A4 qw.length c4, .slice A5 qb.length c5, .int .i64 wat]) (t := 36) (by simp)) 1).trans rfl, (blk_cell ((HD.out.drew).blk (g := gq) (cs := #[.int .i64 4, .int .i64 at_, .int .i64 n, .slice A4 qw.length c4, .slice A5 qb.length c5, .int .i64 wat]) (t := 36) (by simp)) 2).trans rfl⟩ (fun hHeld => ?_)
  have HD1 := aM HD.out.drew
  clear HD
  generalize w4.drew = w5 at HD1 hHeld ⊢
  have HD := HD1
  clear HD1
  refine pk (i := 0) (N := some 61) (flg 1 15) ?_
  refine pk (i := 1) (N := some 62) (flg 2 15) ?_
  refine pk (i := 2) (N := some 63) (flg 3 15) ?_
  refine tk3 (i := 3) (N := some 64) (flg 4 15) hHeld ?_
  refine pk (i := 4) (N := some 65) (flg 5 15) ?_
  refine tk3 (i := 5) (N := some 66) (flg 6 15) hHeld ?_
  refine pk (i := 6) (N := some 67) (flg 7 15) ?_
  refine tk3 (i := 7) (N := some 68) (flg 8 15) hHeld ?_
  refine pk (i := 8) (N := some 69) (flg 9 15) ?_
  refine tk3 (i := 9) (N := some 70) (flg 10 15) hHeld ?_
  refine pk (i := 10) (N := some 71) (flg 11 15) ?_
  refine pk (i := 11) (N := some 72) (flg 12 15) ?_
  refine one_ (i := 12) (N := some 73) (flg 13 15) rfl rfl (by kernel_rfl) (by decide) (fun K hK => ?_)
  refine goes_ Try.func59 (by kernel_rfl) rfl #[.slice AR R.length cR] (by rfl) rfl rfl (by (try simp only [List.map_toArray, List.map_cons, List.map_nil]); first | done | rfl) ?_
  refine (slices_Clone_int_int.calls AR cR R r _ (HC.out HD.out.rows) HRC.out hcl.out).mono ?_
  rintro e w6 ⟨v6, rfl, ho, hb_⟩
  refine ⟨_, rfl, ?_⟩
  have HV := aM (Kd.R_lower ho HD.out.2.2.2.2.1)
  have HD1 := aM (HD.out.below hb_)
  clear ho hb_ HD
  have HD := HD1
  clear HD1
  obtain ⟨Av, cv, ev⟩ := Kd.R_slice HV.out
  subst ev
  refine hK.out _ _ ⟨(blk_cell ((HD.out).old HG.out HN0.out HN2.out) 3).trans rfl, (blk_cell ((HD.out).blk (g := gq) (cs := #[.int .i64 4, .int .i64 at_, .int .i64 n, .slice A4 qw.length c4, .slice A5 qb.length c5, .int .i64 wat]) (t := 36) (by simp)) 1).trans rfl, (blk_cell ((HD.out).blk (g := gq) (cs := #[.int .i64 4, .int .i64 at_, .int .i64 n, .slice A4 qw.length c4, .slice A5 qb.length c5, .int .i64 wat]) (t := 36) (by simp)) 2).trans rfl⟩ (fun hHeld => ?_)
  clear hK K
  refine norm_ (a' := ?_) ?_ ?_
  rotate_left
  · show Act.put _ (some 73) _ = _
    simp only [Act.put, List.setIfInBounds_toArray, List.set_cons_zero, List.set_cons_succ, i64_w, i32_w]
    rfl
  refine pk (i := 13) (N := some 74) (flg 14 15) ?_
  refine one_ (i := 14) (N := none) (flg 15 15) rfl rfl (by kernel_rfl) (by decide) (fun K hK => ?_)
  obtain ⟨hx0, fx0, hx1, fx1, hx2, fx2, hx3, fx3, hx4, fx4, hx5, fx5⟩ := bk6 (HD.out.blk (g := ga) (cs := #[.int .i64 4, .int .i64 0, .int .i64 0, .int .i64 0, .slice none 0 0, .slice none 0 0]) (t := 32) (by simp))
  refine skip_ (w1 := ?_) (by rfl) rfl ?_ ?_
  rotate_left
  · go_simp
    rfl
  have HV1 := aM (R_cell_ HV.out (HD.out.blk (g := ga) (cs := #[.int .i64 4, .int .i64 0, .int .i64 0, .int .i64 0, .slice none 0 0, .slice none 0 0]) (t := 32) (by simp)) (by decide) 4 (.slice Av r.length cv))
  have HD1 := aM (HD.out.cell [] [(gr, #[.int .i64 0, .int .i64 0, .int .i64 0, .int .i64 0, .slice none 0 0, .slice none 0 0], 32), (gq, #[.int .i64 4, .int .i64 at_, .int .i64 n, .slice A4 qw.length c4, .slice A5 qb.length c5, .int .i64 wat], 36)] (cs := #[.int .i64 4, .int .i64 0, .int .i64 0, .int .i64 0, .slice none 0 0, .slice none 0 0]) (cs' := #[.int .i64 4, .int .i64 0, .int .i64 0, .int .i64 0, .slice Av r.length cv, .slice none 0 0]) 4 (.slice Av r.length cv))
  clear HV HD hx0 fx0 hx1 fx1 hx2 fx2 hx3 fx3 hx4 fx4 hx5 fx5
  generalize World.setCell _ _ _ = w7 at HV1 HD1 ⊢
  have HV := HV1
  clear HV1
  have HD := HD1
  clear HD1
  refine hK.out _ _ ⟨(blk_cell ((HD.out).old HG.out HN0.out HN2.out) 3).trans rfl, (blk_cell ((HD.out).blk (g := gq) (cs := #[.int .i64 4, .int .i64 at_, .int .i64 n, .slice A4 qw.length c4, .slice A5 qb.length c5, .int .i64 wat]) (t := 36) (by simp)) 1).trans rfl, (blk_cell ((HD.out).blk (g := gq) (cs := #[.int .i64 4, .int .i64 at_, .int .i64 n, .slice A4 qw.length c4, .slice A5 qb.length c5, .int .i64 wat]) (t := 36) (by simp)) 2).trans rfl⟩ (fun hHeld => ?_)
  clear hK K
  refine done_ (by kernel_rfl) ?_
  clear hz0 fz0 hz1 fz1 hz2 fz2 hz3 fz3 hz4 fz4 hz5 fz5
  obtain ⟨hz0, fz0, hz1, fz1, hz2, fz2, hz3, fz3, hz4, fz4, hz5, fz5⟩ := bk6 (HD.out.blk (g := gq) (cs := #[.int .i64 4, .int .i64 at_, .int .i64 n, .slice A4 qw.length c4, .slice A5 qb.length c5, .int .i64 wat]) (t := 36) (by simp))
  go_wp2_with (first | ((with_reducible refine gate_dst (N := 188) rfl ?_); refine wpList_load_row rfl 32 (.tmp 5) rfl ga rfl 32 #[.int .i64 4, .int .i64 0, .int .i64 0, .int .i64 0, .slice Av r.length cv, .slice none 0 0] (0, 0) _ (HD.out.blk (by simp)) hu32 rfl (by kernel_rfl) ?_) | ((with_reducible refine gate_store (t := 32) (p := 4) rfl ?_); refine wpList_store_row rfl 32 (.tmp 4) (.tmp 188) rfl gr #[.int .i64 4, .int .i64 0, .int .i64 0, .int .i64 0, .slice Av r.length cv, .slice none 0 0] rfl rfl 32 #[.int .i64 0, .int .i64 0, .int .i64 0, .int .i64 0, .slice none 0 0, .slice none 0 0] (HD.out.blk (cs := #[.int .i64 0, .int .i64 0, .int .i64 0, .int .i64 0, .slice none 0 0, .slice none 0 0]) (t := 32) (by simp)) (by kernel_rfl) rfl (by simp [Value.oneCell']) ?_; have HD1 := aM (HD.out.row [(ga, #[.int .i64 4, .int .i64 0, .int .i64 0, .int .i64 0, .slice Av r.length cv, .slice none 0 0], 32)] [(gq, #[.int .i64 4, .int .i64 at_, .int .i64 n, .slice A4 qw.length c4, .slice A5 qb.length c5, .int .i64 wat], 36)] #[.int .i64 4, .int .i64 0, .int .i64 0, .int .i64 0, .slice Av r.length cv, .slice none 0 0]); (try (have HV1 := aM (R_row HV.out (HD.out.blk (g := gr) (cs := #[.int .i64 0, .int .i64 0, .int .i64 0, .int .i64 0, .slice none 0 0, .slice none 0 0]) (t := 32) (by simp)) (by decide) #[.int .i64 4, .int .i64 0, .int .i64 0, .int .i64 0, .slice Av r.length cv, .slice none 0 0]); clear HV; have HV := HV1; clear HV1)); (try (have HV1 := aM (R_row HV2.out (HD.out.blk (g := gr) (cs := #[.int .i64 0, .int .i64 0, .int .i64 0, .int .i64 0, .slice none 0 0, .slice none 0 0]) (t := 32) (by simp)) (by decide) #[.int .i64 4, .int .i64 0, .int .i64 0, .int .i64 0, .slice Av r.length cv, .slice none 0 0]); clear HV2; have HV2 := HV1; clear HV1)); clear HD; have HD := HD1; clear HD1))
  refine bodyPost_ret (results_cell_row rfl _ _ gr 32 #[.int .i64 4, .int .i64 0, .int .i64 0, .int .i64 0, .slice Av r.length cv, .slice none 0 0] (0, 0) _ rfl (HD.out.blk (by simp)) hu32 rfl (by kernel_rfl)) rfl ?_
  exact ⟨_, _, rfl, HD.out.rows, HV.out, Kd.R_nil _ _ _ _ _, HD.out.2.2.2.1, HD.out.2.2.2.2⟩
set_option maxHeartbeats 4000000 in
set_option maxRecDepth 100000 in
theorem does_5 (g : Nat) (A0 A1 A2 A3 : Option Addr) (c0 c1 c2 c3 : Nat) (l0 l1 : List Bool) (l2 l3 : List Int) (at_ n wat : Int) (A4 A5 : Option Addr) (c4 c5 : Nat) (qw : List Int) (qb : List Bool) (w0 w : World)
    (hb : w.heap[g]? = some (.cells #[.slice A0 l0.length c0, .slice A1 l1.length c1, .slice A2 l2.length c2, .slice A3 l3.length c3] 30 (0, 0))) (hD : DX w0 w w [] (.slice A0 l0.length c0) (.slice A1 l1.length c1) (.slice A2 l2.length c2) (.slice A3 l3.length c3) l0 l1 l2 l3) (hC4 : Kd.C (Kd.int .i64) w0 A4 qw.length qw) (hc4 : qw.length ≤ c4) (hC5 : Kd.C Kd.bool w0 A5 qb.length qb) (hc5 : qb.length ≤ c5)
    (h0 : 0 ≤ at_) (h2 : at_ + (qb.length : Int) ≤ (l0.length : Int)) (hb5 : slices_Clone_bool_bool.f qb = some qb) (hw5 : slices_Clone_int_int.f qw = some qw) :
    Calls Try.prog 46 #[.pointer (some ⟨g, 0, none⟩), .agg #[.int .i64 5, .int .i64 at_, .int .i64 n, .slice A4 qw.length c4, .slice A5 qb.length c5, .int .i64 wat]] w (DoesPost w0 w (.slice A0 l0.length c0) (.slice A1 l1.length c1) (.slice A2 l2.length c2) (.slice A3 l3.length c3) (over l0 at_.toNat qb) l1 l2 l3 5 at_ 0 qw qb) := by
  have hroom : l0.length ≤ c0 := (Kd.R_reads' hD.rows.1).2.1
  obtain ⟨i0, hi, hz⟩ := Option.map_eq_some_iff.1 infoDb
  simp only [Prod.mk.injEq] at hz
  have hsz : (Try.prog.info? 4).map (·.size) = some 1 := by rw [hi]; simp [hz.2.1]
  have hcut_ := cut_from (P := Try.prog) 22 4 .i64 Try.underlying22 hi 1 hz.2.1 A0 l0.length c0 at_ h0 (by omega)
  obtain ⟨AD, hAD⟩ : ∃ AD, AD = (if c0 = at_.toNat then A0 else A0.map (·.add (at_.toNat * 1))) := ⟨_, rfl⟩
  obtain ⟨ND, hND⟩ : ∃ ND, ND = l0.length - at_.toNat := ⟨_, rfl⟩
  obtain ⟨CD, hCD⟩ : ∃ CD, CD = c0 - at_.toNat := ⟨_, rfl⟩
  rw [← hAD, ← hND, ← hCD] at hcut_
  have HAD := aM hAD
  have HND := aM hND
  have HCD := aM hCD
  have HS := aM hsz
  have HO := aM (show at_.toNat + qb.length ≤ l0.length by omega)
  clear hAD hND hCD hsz hi hz hroom
  clear h0 h2
  replace hb5 := aM hb5
  replace hw5 := aM hw5
  have hu30 := Try.underlying30
  have hu36 := Try.underlying36
  have hu32 := Try.underlying32
  have HG := aM hb
  have HN0 := aM (hD.rows.ne0 hb (by decide))
  have HN2 := aM (hD.rows.ne2 hb (by decide))
  have HD := aM hD
  have HC4 := aM hC4
  have HC5 := aM hC5
  have Hc4 := aM hc4
  have Hc5 := aM hc5
  clear hb hD hC4 hC5 hc4 hc5
  go_enter Try.func46, Try.ntmps46
  go_wp2_with (first | ((with_reducible refine gate_dst (N := 3) rfl ?_); refine box_event ?hg (N := 3) ?hd (cs := #[.int .i64 5, .int .i64 at_, .int .i64 n, .slice A4 qw.length c4, .slice A5 qb.length c5, .int .i64 wat]) (t := 36) ?hr ?_; (case hd => rfl); (case hg => rfl); (case hr => first | (go_simp; done) | (go_simp; rfl)); intro gq hg _ hbox hb_; have HD1 := aM (HD.out.box hg hbox hb_); clear HD hg hbox hb_; have HD := HD1; clear HD1; obtain ⟨hy0, gy0, hy1, gy1, hy2, gy2, hy3, gy3, hy4, gy4, hy5, gy5⟩ := bk6 (HD.out.blk (g := gq) (cs := #[.int .i64 5, .int .i64 at_, .int .i64 n, .slice A4 qw.length c4, .slice A5 qb.length c5, .int .i64 wat]) (t := 36) (by simp))) | ((with_reducible refine gate_dst (N := 4) rfl ?_); refine box_event ?hg (N := 4) ?hd (cs := #[.int .i64 0, .int .i64 0, .int .i64 0, .int .i64 0, .slice none 0 0, .slice none 0 0]) (t := 32) ?hr ?_; (case hd => rfl); (case hg => rfl); (case hr => first | (go_simp; done) | (go_simp; rfl)); intro gr hg _ hbox hb_; have HD1 := aM (HD.out.box hg hbox hb_); clear HD hg hbox hb_; have HD := HD1; clear HD1; clear hy0 gy0 hy1 gy1 hy2 gy2 hy3 gy3 hy4 gy4 hy5 gy5; obtain ⟨hy0, gy0, hy1, gy1, hy2, gy2, hy3, gy3, hy4, gy4, hy5, gy5⟩ := bk6 (HD.out.blk (g := gq) (cs := #[.int .i64 5, .int .i64 at_, .int .i64 n, .slice A4 qw.length c4, .slice A5 qb.length c5, .int .i64 wat]) (t := 36) (by simp))) | ((with_reducible refine gate_dst (N := 5) rfl ?_); refine box_event ?hg (N := 5) ?hd (cs := #[.int .i64 0, .int .i64 0, .int .i64 0, .int .i64 0, .slice none 0 0, .slice none 0 0]) (t := 32) ?hr ?_; (case hd => rfl); (case hg => rfl); (case hr => first | (go_simp; done) | (go_simp; rfl)); intro ga hg _ hbox hb_; have HD1 := aM (HD.out.box hg hbox hb_); clear HD hg hbox hb_; have HD := HD1; clear HD1; clear hy0 gy0 hy1 gy1 hy2 gy2 hy3 gy3 hy4 gy4 hy5 gy5) | ((with_reducible refine gate_store (t := 32) (p := 5) rfl ?_); refine wpList_store_row rfl 32 (.tmp 5) (.tmp 8) rfl ga #[.int .i64 5, .int .i64 0, .int .i64 0, .int .i64 0, .slice none 0 0, .slice none 0 0] rfl rfl 32 #[.int .i64 0, .int .i64 0, .int .i64 0, .int .i64 0, .slice none 0 0, .slice none 0 0] (HD.out.blk (cs := #[.int .i64 0, .int .i64 0, .int .i64 0, .int .i64 0, .slice none 0 0, .slice none 0 0]) (t := 32) (by simp)) (by kernel_rfl) rfl (by simp [Value.oneCell']) ?_; have HD1 := aM (HD.out.row [] [(gr, #[.int .i64 0, .int .i64 0, .int .i64 0, .int .i64 0, .slice none 0 0, .slice none 0 0], 32), (gq, #[.int .i64 5, .int .i64 at_, .int .i64 n, .slice A4 qw.length c4, .slice A5 qb.length c5, .int .i64 wat], 36)] #[.int .i64 5, .int .i64 0, .int .i64 0, .int .i64 0, .slice none 0 0, .slice none 0 0]); clear HD; generalize World.setRow _ _ _ = w4 at HD1 ⊢; have HD := HD1; clear HD1; obtain ⟨hz0, fz0, hz1, fz1, hz2, fz2, hz3, fz3, hz4, fz4, hz5, fz5⟩ := bk6 (HD.out.blk (g := gq) (cs := #[.int .i64 5, .int .i64 at_, .int .i64 n, .slice A4 qw.length c4, .slice A5 qb.length c5, .int .i64 wat]) (t := 36) (by simp))))
  refine start_ (n := 10) (S := fun w' => w'.cell? ⟨g, 0, none⟩ = some (.slice A0 l0.length c0) ∧ w'.cell? ⟨gq, 1, none⟩ = some (.int .i64 at_) ∧ w'.cell? ⟨gq, 4, none⟩ = some (.slice A5 qb.length c5)) (ds := []) (flg 0 10) (by kernel_rfl) rfl rfl ⟨(blk_cell ((HD.out.drew).old HG.out HN0.out HN2.out) 0).trans rfl, (blk_cell ((HD.out.drew).blk (g := gq) (cs := #[.int .i64 5, .int .i64 at_, .int .i64 n, .slice A4 qw.length c4, .slice A5 qb.length c5, .int .i64 wat]) (t := 36) (by simp)) 1).trans rfl, (blk_cell ((HD.out.drew).blk (g := gq) (cs := #[.int .i64 5, .int .i64 at_, .int .i64 n, .slice A4 qw.length c4, .slice A5 qb.length c5, .int .i64 wat]) (t := 36) (by simp)) 4).trans rfl⟩ (fun hHeld => ?_)
  have HD1 := aM HD.out.drew
  clear HD
  generalize w4.drew = w5 at HD1 hHeld ⊢
  have HD := HD1
  clear HD1
  refine pk (i := 0) (N := some 78) (flg 1 10) ?_
  refine pk (i := 1) (N := some 79) (flg 2 10) ?_
  refine pk (i := 2) (N := some 80) (flg 3 10) ?_
  refine tk3 (i := 3) (N := some 81) (flg 4 10) hHeld ?_
  refine pk (i := 4) (N := some 82) (flg 5 10) ?_
  refine tk3 (i := 5) (N := some 83) (flg 6 10) hHeld ?_
  refine pk (i := 6) (N := some 84) (flg 7 10) ?_
  refine pk (i := 7) (N := some 85) (flg 8 10) ?_
  refine tk3 (i := 8) (N := some 86) (flg 9 10) hHeld ?_
  refine one_ (i := 9) (N := some 87) (flg 10 10) rfl rfl (by kernel_rfl) (by decide) (fun K hK => ?_)
  refine copy_ (enc := Value.bool) (h1 := fun _ => rfl) false (A := A0) (c := c0) (As := A5) (cs := c5) (xs := l0) (ys := qb) at_.toNat (by rfl) rfl rfl Try.underlying22 HS.out (by show Value.slice AD ND CD = _; rw [HAD.out, HND.out, HCD.out]) rfl HD.out.rows.1 (Kd.C_below HC5.out HD.out.2.2.2.1) HO.out ?_
  intro w6 hR hg
  have HD1 := aM (HD.out.put0 hR hg (by intro x hx; simp only [List.nil_append, List.cons_append, List.mem_cons, List.not_mem_nil, or_false] at hx; rcases hx with rfl | rfl | rfl <;> simp))
  clear HD hR hg
  have HD := HD1
  clear HD1
  refine hK.out _ _ ⟨(blk_cell ((HD.out).old HG.out HN0.out HN2.out) 0).trans rfl, (blk_cell ((HD.out).blk (g := gq) (cs := #[.int .i64 5, .int .i64 at_, .int .i64 n, .slice A4 qw.length c4, .slice A5 qb.length c5, .int .i64 wat]) (t := 36) (by simp)) 1).trans rfl, (blk_cell ((HD.out).blk (g := gq) (cs := #[.int .i64 5, .int .i64 at_, .int .i64 n, .slice A4 qw.length c4, .slice A5 qb.length c5, .int .i64 wat]) (t := 36) (by simp)) 4).trans rfl⟩ (fun hHeld => ?_)
  clear hK K
  refine norm_ (a' := ?_) ?_ ?_
  rotate_left
  · show Act.put _ (some 87) _ = _
    simp only [Act.put, List.setIfInBounds_toArray, List.set_cons_zero, List.set_cons_succ, i64_w, i32_w]
    rfl
  refine done_ (by kernel_rfl) ?_
  clear hz0 fz0 hz1 fz1 hz2 fz2 hz3 fz3 hz4 fz4 hz5 fz5
  obtain ⟨hz0, fz0, hz1, fz1, hz2, fz2, hz3, fz3, hz4, fz4, hz5, fz5⟩ := bk6 (HD.out.blk (g := gq) (cs := #[.int .i64 5, .int .i64 at_, .int .i64 n, .slice A4 qw.length c4, .slice A5 qb.length c5, .int .i64 wat]) (t := 36) (by simp)); obtain ⟨hx0, fx0, hx1, fx1, hx2, fx2, hx3, fx3, hx4, fx4, hx5, fx5⟩ := bk6 (HD.out.blk (g := ga) (cs := #[.int .i64 5, .int .i64 0, .int .i64 0, .int .i64 0, .slice none 0 0, .slice none 0 0]) (t := 32) (by simp))
  go_upto_region 29 with ((with_reducible refine gate_store (t := 3) (p := 90) rfl ?_); refine store_event (t := 3) (p := 90) (v := ?vo_90) (w1 := World.setCell w6 ⟨ga, 2, none⟩ (.int .i64 at_)) ?hg ?ho ?hn ?hr ?_; (case ho => rfl); (case hg => rfl); (case hn => rfl); (case hr => first | (go_simp; done) | (go_simp; rfl)); intro w8 hw8; have HD1 := aM (show DX w0 w w8 _ _ _ _ _ _ _ _ _ from by rw [hw8]; exact HD.out.cell [] [(gr, #[.int .i64 0, .int .i64 0, .int .i64 0, .int .i64 0, .slice none 0 0, .slice none 0 0], 32), (gq, #[.int .i64 5, .int .i64 at_, .int .i64 n, .slice A4 qw.length c4, .slice A5 qb.length c5, .int .i64 wat], 36)] (cs := #[.int .i64 5, .int .i64 0, .int .i64 0, .int .i64 0, .slice none 0 0, .slice none 0 0]) (cs' := #[.int .i64 5, .int .i64 0, .int .i64 at_, .int .i64 0, .slice none 0 0, .slice none 0 0]) 2 (.int .i64 at_)); clear hw8 HD; have HD := HD1; clear HD1; clear hz0 fz0 hz1 fz1 hz2 fz2 hz3 fz3 hz4 fz4 hz5 fz5 hx0 fx0 hx1 fx1 hx2 fx2 hx3 fx3 hx4 fx4 hx5 fx5; obtain ⟨hz0, fz0, hz1, fz1, hz2, fz2, hz3, fz3, hz4, fz4, hz5, fz5⟩ := bk6 (HD.out.blk (g := gq) (cs := #[.int .i64 5, .int .i64 at_, .int .i64 n, .slice A4 qw.length c4, .slice A5 qb.length c5, .int .i64 wat]) (t := 36) (by simp)); obtain ⟨hx0, fx0, hx1, fx1, hx2, fx2, hx3, fx3, hx4, fx4, hx5, fx5⟩ := bk6 (HD.out.blk (g := ga) (cs := #[.int .i64 5, .int .i64 0, .int .i64 at_, .int .i64 0, .slice none 0 0, .slice none 0 0]) (t := 32) (by simp)))
  refine start_ (n := 10) (S := fun w' => w'.cell? ⟨gq, 4, none⟩ = some (.slice A5 qb.length c5) ∧ w'.cell? ⟨gq, 3, none⟩ = some (.slice A4 qw.length c4) ∧ w'.cell? ⟨gq, 1, none⟩ = some (.int .i64 at_)) (ds := []) (flg 0 10) (by kernel_rfl) rfl rfl ⟨(blk_cell ((HD.out.drew).blk (g := gq) (cs := #[.int .i64 5, .int .i64 at_, .int .i64 n, .slice A4 qw.length c4, .slice A5 qb.length c5, .int .i64 wat]) (t := 36) (by simp)) 4).trans rfl, (blk_cell ((HD.out.drew).blk (g := gq) (cs := #[.int .i64 5, .int .i64 at_, .int .i64 n, .slice A4 qw.length c4, .slice A5 qb.length c5, .int .i64 wat]) (t := 36) (by simp)) 3).trans rfl, (blk_cell ((HD.out.drew).blk (g := gq) (cs := #[.int .i64 5, .int .i64 at_, .int .i64 n, .slice A4 qw.length c4, .slice A5 qb.length c5, .int .i64 wat]) (t := 36) (by simp)) 1).trans rfl⟩ (fun hHeld => ?_)
  have HD1 := aM HD.out.drew
  clear HD hz0 fz0 hz1 fz1 hz2 fz2 hz3 fz3 hz4 fz4 hz5 fz5 hx0 fx0 hx1 fx1 hx2 fx2 hx3 fx3 hx4 fx4 hx5 fx5
  generalize w8.drew = w9 at HD1 hHeld ⊢
  have HD := HD1
  clear HD1
  refine pk (i := 0) (N := some 174) (flg 1 10) ?_
  refine tk3 (i := 1) (N := some 175) (flg 2 10) hHeld ?_
  refine pk (i := 3) (N := some 177) #[true, true, false, true, false, false, false, false, false, false] ?_
  refine tk3 (i := 4) (N := some 178) #[true, true, false, true, true, false, false, false, false, false] hHeld ?_
  refine one_ (i := 2) (N := some 176) (flg 5 10) rfl rfl (by kernel_rfl) (by decide) (fun K hK => ?_)
  refine goes_ Try.func58 (by kernel_rfl) rfl #[.slice A5 qb.length c5] (by rfl) rfl rfl (by (try simp only [List.map_toArray, List.map_cons, List.map_nil]); first | done | rfl) ?_
  refine (slices_Clone_bool_bool.calls A5 c5 qb qb _ (Kd.C_below HC5.out HD.out.2.2.2.1) Hc5.out hb5.out).mono ?_
  rintro e w10 ⟨v10, rfl, ho, hb_⟩
  refine ⟨_, rfl, ?_⟩
  have HV := aM (Kd.R_lower ho HD.out.2.2.2.2.1)
  have HD1 := aM (HD.out.below hb_)
  clear ho hb_ HD
  have HD := HD1
  clear HD1
  obtain ⟨Av, cv, ev⟩ := Kd.R_slice HV.out
  subst ev
  refine hK.out _ _ ⟨(blk_cell ((HD.out).blk (g := gq) (cs := #[.int .i64 5, .int .i64 at_, .int .i64 n, .slice A4 qw.length c4, .slice A5 qb.length c5, .int .i64 wat]) (t := 36) (by simp)) 4).trans rfl, (blk_cell ((HD.out).blk (g := gq) (cs := #[.int .i64 5, .int .i64 at_, .int .i64 n, .slice A4 qw.length c4, .slice A5 qb.length c5, .int .i64 wat]) (t := 36) (by simp)) 3).trans rfl, (blk_cell ((HD.out).blk (g := gq) (cs := #[.int .i64 5, .int .i64 at_, .int .i64 n, .slice A4 qw.length c4, .slice A5 qb.length c5, .int .i64 wat]) (t := 36) (by simp)) 1).trans rfl⟩ (fun hHeld => ?_)
  clear hK K
  refine norm_ (a' := ?_) ?_ ?_
  rotate_left
  · show Act.put _ (some 176) _ = _
    simp only [Act.put, List.setIfInBounds_toArray, List.set_cons_zero, List.set_cons_succ, i64_w, i32_w]
    rfl
  refine pk (i := 6) (N := some 180) #[true, true, true, true, true, false, true, false, false, false] ?_
  refine one_ (i := 5) (N := some 179) (flg 7 10) rfl rfl (by kernel_rfl) (by decide) (fun K hK => ?_)
  refine goes_ Try.func59 (by kernel_rfl) rfl #[.slice A4 qw.length c4] (by rfl) rfl rfl (by (try simp only [List.map_toArray, List.map_cons, List.map_nil]); first | done | rfl) ?_
  refine (slices_Clone_int_int.calls A4 c4 qw qw _ (Kd.C_below HC4.out HD.out.2.2.2.1) Hc4.out hw5.out).mono ?_
  rintro e w11 ⟨v11, rfl, ho, hb_⟩
  refine ⟨_, rfl, ?_⟩
  have HV2 := aM (Kd.R_lower ho HD.out.2.2.2.2.1)
  have HD1 := aM (HD.out.below hb_)
  have HV1 := aM (Kd.R_below HV.out hb_)
  clear HV
  have HV := HV1
  clear HV1
  clear ho hb_ HD
  have HD := HD1
  clear HD1
  obtain ⟨Au, cu, eu⟩ := Kd.R_slice HV2.out
  subst eu
  refine hK.out _ _ ⟨(blk_cell ((HD.out).blk (g := gq) (cs := #[.int .i64 5, .int .i64 at_, .int .i64 n, .slice A4 qw.length c4, .slice A5 qb.length c5, .int .i64 wat]) (t := 36) (by simp)) 4).trans rfl, (blk_cell ((HD.out).blk (g := gq) (cs := #[.int .i64 5, .int .i64 at_, .int .i64 n, .slice A4 qw.length c4, .slice A5 qb.length c5, .int .i64 wat]) (t := 36) (by simp)) 3).trans rfl, (blk_cell ((HD.out).blk (g := gq) (cs := #[.int .i64 5, .int .i64 at_, .int .i64 n, .slice A4 qw.length c4, .slice A5 qb.length c5, .int .i64 wat]) (t := 36) (by simp)) 1).trans rfl⟩ (fun hHeld => ?_)
  clear hK K
  refine norm_ (a' := ?_) ?_ ?_
  rotate_left
  · show Act.put _ (some 179) _ = _
    simp only [Act.put, List.setIfInBounds_toArray, List.set_cons_zero, List.set_cons_succ, i64_w, i32_w]
    rfl
  refine one_ (i := 7) (N := none) (flg 8 10) rfl rfl (by kernel_rfl) (by decide) (fun K hK => ?_)
  obtain ⟨hx0, fx0, hx1, fx1, hx2, fx2, hx3, fx3, hx4, fx4, hx5, fx5⟩ := bk6 (HD.out.blk (g := ga) (cs := #[.int .i64 5, .int .i64 0, .int .i64 at_, .int .i64 0, .slice none 0 0, .slice none 0 0]) (t := 32) (by simp))
  refine skip_ (w1 := ?_) (by rfl) rfl ?_ ?_
  rotate_left
  · go_simp
    rfl
  have HV1 := aM (R_cell_ HV.out (HD.out.blk (g := ga) (cs := #[.int .i64 5, .int .i64 0, .int .i64 at_, .int .i64 0, .slice none 0 0, .slice none 0 0]) (t := 32) (by simp)) (by decide) 5 (.slice Av qb.length cv))
  have HV21 := aM (R_cell_ HV2.out (HD.out.blk (g := ga) (cs := #[.int .i64 5, .int .i64 0, .int .i64 at_, .int .i64 0, .slice none 0 0, .slice none 0 0]) (t := 32) (by simp)) (by decide) 5 (.slice Av qb.length cv))
  have HD1 := aM (HD.out.cell [] [(gr, #[.int .i64 0, .int .i64 0, .int .i64 0, .int .i64 0, .slice none 0 0, .slice none 0 0], 32), (gq, #[.int .i64 5, .int .i64 at_, .int .i64 n, .slice A4 qw.length c4, .slice A5 qb.length c5, .int .i64 wat], 36)] (cs := #[.int .i64 5, .int .i64 0, .int .i64 at_, .int .i64 0, .slice none 0 0, .slice none 0 0]) (cs' := #[.int .i64 5, .int .i64 0, .int .i64 at_, .int .i64 0, .slice none 0 0, .slice Av qb.length cv]) 5 (.slice Av qb.length cv))
  clear HV HV2 HD hx0 fx0 hx1 fx1 hx2 fx2 hx3 fx3 hx4 fx4 hx5 fx5
  generalize World.setCell _ _ _ = w7 at HV1 HV21 HD1 ⊢
  have HV := HV1
  clear HV1
  have HV2 := HV21
  clear HV21
  have HD := HD1
  clear HD1
  refine hK.out _ _ ⟨(blk_cell ((HD.out).blk (g := gq) (cs := #[.int .i64 5, .int .i64 at_, .int .i64 n, .slice A4 qw.length c4, .slice A5 qb.length c5, .int .i64 wat]) (t := 36) (by simp)) 4).trans rfl, (blk_cell ((HD.out).blk (g := gq) (cs := #[.int .i64 5, .int .i64 at_, .int .i64 n, .slice A4 qw.length c4, .slice A5 qb.length c5, .int .i64 wat]) (t := 36) (by simp)) 3).trans rfl, (blk_cell ((HD.out).blk (g := gq) (cs := #[.int .i64 5, .int .i64 at_, .int .i64 n, .slice A4 qw.length c4, .slice A5 qb.length c5, .int .i64 wat]) (t := 36) (by simp)) 1).trans rfl⟩ (fun hHeld => ?_)
  clear hK K
  refine pk (i := 8) (N := some 181) (flg 9 10) ?_
  refine one_ (i := 9) (N := none) (flg 10 10) rfl rfl (by kernel_rfl) (by decide) (fun K hK => ?_)
  obtain ⟨hx0, fx0, hx1, fx1, hx2, fx2, hx3, fx3, hx4, fx4, hx5, fx5⟩ := bk6 (HD.out.blk (g := ga) (cs := #[.int .i64 5, .int .i64 0, .int .i64 at_, .int .i64 0, .slice none 0 0, .slice Av qb.length cv]) (t := 32) (by simp))
  refine skip_ (w1 := ?_) (by rfl) rfl ?_ ?_
  rotate_left
  · go_simp
    rfl
  have HV1 := aM (R_cell_ HV.out (HD.out.blk (g := ga) (cs := #[.int .i64 5, .int .i64 0, .int .i64 at_, .int .i64 0, .slice none 0 0, .slice Av qb.length cv]) (t := 32) (by simp)) (by decide) 4 (.slice Au qw.length cu))
  have HV21 := aM (R_cell_ HV2.out (HD.out.blk (g := ga) (cs := #[.int .i64 5, .int .i64 0, .int .i64 at_, .int .i64 0, .slice none 0 0, .slice Av qb.length cv]) (t := 32) (by simp)) (by decide) 4 (.slice Au qw.length cu))
  have HD1 := aM (HD.out.cell [] [(gr, #[.int .i64 0, .int .i64 0, .int .i64 0, .int .i64 0, .slice none 0 0, .slice none 0 0], 32), (gq, #[.int .i64 5, .int .i64 at_, .int .i64 n, .slice A4 qw.length c4, .slice A5 qb.length c5, .int .i64 wat], 36)] (cs := #[.int .i64 5, .int .i64 0, .int .i64 at_, .int .i64 0, .slice none 0 0, .slice Av qb.length cv]) (cs' := #[.int .i64 5, .int .i64 0, .int .i64 at_, .int .i64 0, .slice Au qw.length cu, .slice Av qb.length cv]) 4 (.slice Au qw.length cu))
  clear HV HV2 HD hx0 fx0 hx1 fx1 hx2 fx2 hx3 fx3 hx4 fx4 hx5 fx5
  generalize World.setCell _ _ _ = w7 at HV1 HV21 HD1 ⊢
  have HV := HV1
  clear HV1
  have HV2 := HV21
  clear HV21
  have HD := HD1
  clear HD1
  refine hK.out _ _ ⟨(blk_cell ((HD.out).blk (g := gq) (cs := #[.int .i64 5, .int .i64 at_, .int .i64 n, .slice A4 qw.length c4, .slice A5 qb.length c5, .int .i64 wat]) (t := 36) (by simp)) 4).trans rfl, (blk_cell ((HD.out).blk (g := gq) (cs := #[.int .i64 5, .int .i64 at_, .int .i64 n, .slice A4 qw.length c4, .slice A5 qb.length c5, .int .i64 wat]) (t := 36) (by simp)) 3).trans rfl, (blk_cell ((HD.out).blk (g := gq) (cs := #[.int .i64 5, .int .i64 at_, .int .i64 n, .slice A4 qw.length c4, .slice A5 qb.length c5, .int .i64 wat]) (t := 36) (by simp)) 1).trans rfl⟩ (fun hHeld => ?_)
  clear hK K
  refine done_ (by kernel_rfl) ?_
  obtain ⟨hz0, fz0, hz1, fz1, hz2, fz2, hz3, fz3, hz4, fz4, hz5, fz5⟩ := bk6 (HD.out.blk (g := gq) (cs := #[.int .i64 5, .int .i64 at_, .int .i64 n, .slice A4 qw.length c4, .slice A5 qb.length c5, .int .i64 wat]) (t := 36) (by simp))
  clear hz0 fz0 hz1 fz1 hz2 fz2 hz3 fz3 hz4 fz4 hz5 fz5
  obtain ⟨hz0, fz0, hz1, fz1, hz2, fz2, hz3, fz3, hz4, fz4, hz5, fz5⟩ := bk6 (HD.out.blk (g := gq) (cs := #[.int .i64 5, .int .i64 at_, .int .i64 n, .slice A4 qw.length c4, .slice A5 qb.length c5, .int .i64 wat]) (t := 36) (by simp))
  go_wp2_with (first | ((with_reducible refine gate_dst (N := 188) rfl ?_); refine wpList_load_row rfl 32 (.tmp 5) rfl ga rfl 32 #[.int .i64 5, .int .i64 0, .int .i64 at_, .int .i64 0, .slice Au qw.length cu, .slice Av qb.length cv] (0, 0) _ (HD.out.blk (by simp)) hu32 rfl (by kernel_rfl) ?_) | ((with_reducible refine gate_store (t := 32) (p := 4) rfl ?_); refine wpList_store_row rfl 32 (.tmp 4) (.tmp 188) rfl gr #[.int .i64 5, .int .i64 0, .int .i64 at_, .int .i64 0, .slice Au qw.length cu, .slice Av qb.length cv] rfl rfl 32 #[.int .i64 0, .int .i64 0, .int .i64 0, .int .i64 0, .slice none 0 0, .slice none 0 0] (HD.out.blk (cs := #[.int .i64 0, .int .i64 0, .int .i64 0, .int .i64 0, .slice none 0 0, .slice none 0 0]) (t := 32) (by simp)) (by kernel_rfl) rfl (by simp [Value.oneCell']) ?_; have HD1 := aM (HD.out.row [(ga, #[.int .i64 5, .int .i64 0, .int .i64 at_, .int .i64 0, .slice Au qw.length cu, .slice Av qb.length cv], 32)] [(gq, #[.int .i64 5, .int .i64 at_, .int .i64 n, .slice A4 qw.length c4, .slice A5 qb.length c5, .int .i64 wat], 36)] #[.int .i64 5, .int .i64 0, .int .i64 at_, .int .i64 0, .slice Au qw.length cu, .slice Av qb.length cv]); (try (have HV1 := aM (R_row HV.out (HD.out.blk (g := gr) (cs := #[.int .i64 0, .int .i64 0, .int .i64 0, .int .i64 0, .slice none 0 0, .slice none 0 0]) (t := 32) (by simp)) (by decide) #[.int .i64 5, .int .i64 0, .int .i64 at_, .int .i64 0, .slice Au qw.length cu, .slice Av qb.length cv]); clear HV; have HV := HV1; clear HV1)); (try (have HV1 := aM (R_row HV2.out (HD.out.blk (g := gr) (cs := #[.int .i64 0, .int .i64 0, .int .i64 0, .int .i64 0, .slice none 0 0, .slice none 0 0]) (t := 32) (by simp)) (by decide) #[.int .i64 5, .int .i64 0, .int .i64 at_, .int .i64 0, .slice Au qw.length cu, .slice Av qb.length cv]); clear HV2; have HV2 := HV1; clear HV1)); clear HD; have HD := HD1; clear HD1))
  refine bodyPost_ret (results_cell_row rfl _ _ gr 32 #[.int .i64 5, .int .i64 0, .int .i64 at_, .int .i64 0, .slice Au qw.length cu, .slice Av qb.length cv] (0, 0) _ rfl (HD.out.blk (by simp)) hu32 rfl (by kernel_rfl)) rfl ?_
  exact ⟨_, _, rfl, HD.out.rows, HV2.out, HV.out, HD.out.2.2.2.1, HD.out.2.2.2.2⟩
set_option maxHeartbeats 4000000 in
set_option maxRecDepth 100000 in
theorem does_6 (g : Nat) (A0 A1 A2 A3 : Option Addr) (c0 c1 c2 c3 : Nat) (l0 l1 : List Bool) (l2 l3 : List Int) (at_ n wat : Int) (A4 A5 : Option Addr) (c4 c5 : Nat) (qw : List Int) (qb : List Bool) (w0 w : World)
    (hb : w.heap[g]? = some (.cells #[.slice A0 l0.length c0, .slice A1 l1.length c1, .slice A2 l2.length c2, .slice A3 l3.length c3] 30 (0, 0))) (hD : DX w0 w w [] (.slice A0 l0.length c0) (.slice A1 l1.length c1) (.slice A2 l2.length c2) (.slice A3 l3.length c3) l0 l1 l2 l3) (hC4 : Kd.C (Kd.int .i64) w0 A4 qw.length qw) (hc4 : qw.length ≤ c4) (hC5 : Kd.C Kd.bool w0 A5 qb.length qb) (hc5 : qb.length ≤ c5)
    (h0 : 0 ≤ at_) (h2 : at_ + (qw.length : Int) ≤ (l2.length : Int)) (hb5 : slices_Clone_bool_bool.f qb = some qb) (hw5 : slices_Clone_int_int.f qw = some qw) :
    Calls Try.prog 46 #[.pointer (some ⟨g, 0, none⟩), .agg #[.int .i64 6, .int .i64 at_, .int .i64 n, .slice A4 qw.length c4, .slice A5 qb.length c5, .int .i64 wat]] w (DoesPost w0 w (.slice A0 l0.length c0) (.slice A1 l1.length c1) (.slice A2 l2.length c2) (.slice A3 l3.length c3) l0 l1 (over l2 at_.toNat qw) l3 6 at_ 0 qw qb) := by
  have hroom : l2.length ≤ c2 := (Kd.R_reads' hD.rows.2.2.1).2.1
  obtain ⟨i0, hi, hz⟩ := Option.map_eq_some_iff.1 infoDi
  simp only [Prod.mk.injEq] at hz
  have hsz : (Try.prog.info? 3).map (·.size) = some 1 := by rw [hi]; simp [hz.2.1]
  have hcut_ := cut_from (P := Try.prog) 23 3 .i64 Try.underlying23 hi 1 hz.2.1 A2 l2.length c2 at_ h0 (by omega)
  obtain ⟨AD, hAD⟩ : ∃ AD, AD = (if c2 = at_.toNat then A2 else A2.map (·.add (at_.toNat * 1))) := ⟨_, rfl⟩
  obtain ⟨ND, hND⟩ : ∃ ND, ND = l2.length - at_.toNat := ⟨_, rfl⟩
  obtain ⟨CD, hCD⟩ : ∃ CD, CD = c2 - at_.toNat := ⟨_, rfl⟩
  rw [← hAD, ← hND, ← hCD] at hcut_
  have HAD := aM hAD
  have HND := aM hND
  have HCD := aM hCD
  have HS := aM hsz
  have HO := aM (show at_.toNat + qw.length ≤ l2.length by omega)
  clear hAD hND hCD hsz hi hz hroom
  clear h0 h2
  replace hb5 := aM hb5
  replace hw5 := aM hw5
  have hu30 := Try.underlying30
  have hu36 := Try.underlying36
  have hu32 := Try.underlying32
  have HG := aM hb
  have HN0 := aM (hD.rows.ne0 hb (by decide))
  have HN2 := aM (hD.rows.ne2 hb (by decide))
  have HD := aM hD
  have HC4 := aM hC4
  have HC5 := aM hC5
  have Hc4 := aM hc4
  have Hc5 := aM hc5
  clear hb hD hC4 hC5 hc4 hc5
  go_enter Try.func46, Try.ntmps46
  go_wp2_with (first | ((with_reducible refine gate_dst (N := 3) rfl ?_); refine box_event ?hg (N := 3) ?hd (cs := #[.int .i64 6, .int .i64 at_, .int .i64 n, .slice A4 qw.length c4, .slice A5 qb.length c5, .int .i64 wat]) (t := 36) ?hr ?_; (case hd => rfl); (case hg => rfl); (case hr => first | (go_simp; done) | (go_simp; rfl)); intro gq hg _ hbox hb_; have HD1 := aM (HD.out.box hg hbox hb_); clear HD hg hbox hb_; have HD := HD1; clear HD1; obtain ⟨hy0, gy0, hy1, gy1, hy2, gy2, hy3, gy3, hy4, gy4, hy5, gy5⟩ := bk6 (HD.out.blk (g := gq) (cs := #[.int .i64 6, .int .i64 at_, .int .i64 n, .slice A4 qw.length c4, .slice A5 qb.length c5, .int .i64 wat]) (t := 36) (by simp))) | ((with_reducible refine gate_dst (N := 4) rfl ?_); refine box_event ?hg (N := 4) ?hd (cs := #[.int .i64 0, .int .i64 0, .int .i64 0, .int .i64 0, .slice none 0 0, .slice none 0 0]) (t := 32) ?hr ?_; (case hd => rfl); (case hg => rfl); (case hr => first | (go_simp; done) | (go_simp; rfl)); intro gr hg _ hbox hb_; have HD1 := aM (HD.out.box hg hbox hb_); clear HD hg hbox hb_; have HD := HD1; clear HD1; clear hy0 gy0 hy1 gy1 hy2 gy2 hy3 gy3 hy4 gy4 hy5 gy5; obtain ⟨hy0, gy0, hy1, gy1, hy2, gy2, hy3, gy3, hy4, gy4, hy5, gy5⟩ := bk6 (HD.out.blk (g := gq) (cs := #[.int .i64 6, .int .i64 at_, .int .i64 n, .slice A4 qw.length c4, .slice A5 qb.length c5, .int .i64 wat]) (t := 36) (by simp))) | ((with_reducible refine gate_dst (N := 5) rfl ?_); refine box_event ?hg (N := 5) ?hd (cs := #[.int .i64 0, .int .i64 0, .int .i64 0, .int .i64 0, .slice none 0 0, .slice none 0 0]) (t := 32) ?hr ?_; (case hd => rfl); (case hg => rfl); (case hr => first | (go_simp; done) | (go_simp; rfl)); intro ga hg _ hbox hb_; have HD1 := aM (HD.out.box hg hbox hb_); clear HD hg hbox hb_; have HD := HD1; clear HD1; clear hy0 gy0 hy1 gy1 hy2 gy2 hy3 gy3 hy4 gy4 hy5 gy5) | ((with_reducible refine gate_store (t := 32) (p := 5) rfl ?_); refine wpList_store_row rfl 32 (.tmp 5) (.tmp 8) rfl ga #[.int .i64 6, .int .i64 0, .int .i64 0, .int .i64 0, .slice none 0 0, .slice none 0 0] rfl rfl 32 #[.int .i64 0, .int .i64 0, .int .i64 0, .int .i64 0, .slice none 0 0, .slice none 0 0] (HD.out.blk (cs := #[.int .i64 0, .int .i64 0, .int .i64 0, .int .i64 0, .slice none 0 0, .slice none 0 0]) (t := 32) (by simp)) (by kernel_rfl) rfl (by simp [Value.oneCell']) ?_; have HD1 := aM (HD.out.row [] [(gr, #[.int .i64 0, .int .i64 0, .int .i64 0, .int .i64 0, .slice none 0 0, .slice none 0 0], 32), (gq, #[.int .i64 6, .int .i64 at_, .int .i64 n, .slice A4 qw.length c4, .slice A5 qb.length c5, .int .i64 wat], 36)] #[.int .i64 6, .int .i64 0, .int .i64 0, .int .i64 0, .slice none 0 0, .slice none 0 0]); clear HD; generalize World.setRow _ _ _ = w4 at HD1 ⊢; have HD := HD1; clear HD1; obtain ⟨hz0, fz0, hz1, fz1, hz2, fz2, hz3, fz3, hz4, fz4, hz5, fz5⟩ := bk6 (HD.out.blk (g := gq) (cs := #[.int .i64 6, .int .i64 at_, .int .i64 n, .slice A4 qw.length c4, .slice A5 qb.length c5, .int .i64 wat]) (t := 36) (by simp))))
  refine start_ (n := 10) (S := fun w' => w'.cell? ⟨g, 2, none⟩ = some (.slice A2 l2.length c2) ∧ w'.cell? ⟨gq, 1, none⟩ = some (.int .i64 at_) ∧ w'.cell? ⟨gq, 3, none⟩ = some (.slice A4 qw.length c4)) (ds := []) (flg 0 10) (by kernel_rfl) rfl rfl ⟨(blk_cell ((HD.out.drew).old HG.out HN0.out HN2.out) 2).trans rfl, (blk_cell ((HD.out.drew).blk (g := gq) (cs := #[.int .i64 6, .int .i64 at_, .int .i64 n, .slice A4 qw.length c4, .slice A5 qb.length c5, .int .i64 wat]) (t := 36) (by simp)) 1).trans rfl, (blk_cell ((HD.out.drew).blk (g := gq) (cs := #[.int .i64 6, .int .i64 at_, .int .i64 n, .slice A4 qw.length c4, .slice A5 qb.length c5, .int .i64 wat]) (t := 36) (by simp)) 3).trans rfl⟩ (fun hHeld => ?_)
  have HD1 := aM HD.out.drew
  clear HD
  generalize w4.drew = w5 at HD1 hHeld ⊢
  have HD := HD1
  clear HD1
  refine pk (i := 0) (N := some 94) (flg 1 10) ?_
  refine pk (i := 1) (N := some 95) (flg 2 10) ?_
  refine pk (i := 2) (N := some 96) (flg 3 10) ?_
  refine tk3 (i := 3) (N := some 97) (flg 4 10) hHeld ?_
  refine pk (i := 4) (N := some 98) (flg 5 10) ?_
  refine tk3 (i := 5) (N := some 99) (flg 6 10) hHeld ?_
  refine pk (i := 6) (N := some 100) (flg 7 10) ?_
  refine pk (i := 7) (N := some 101) (flg 8 10) ?_
  refine tk3 (i := 8) (N := some 102) (flg 9 10) hHeld ?_
  refine one_ (i := 9) (N := some 103) (flg 10 10) rfl rfl (by kernel_rfl) (by decide) (fun K hK => ?_)
  refine copy_ (enc := (Value.int .i64)) (h1 := fun _ => rfl) 0 (A := A2) (c := c2) (As := A4) (cs := c4) (xs := l2) (ys := qw) at_.toNat (by rfl) rfl rfl Try.underlying23 HS.out (by show Value.slice AD ND CD = _; rw [HAD.out, HND.out, HCD.out]) rfl HD.out.rows.2.2.1 (Kd.C_below HC4.out HD.out.2.2.2.1) HO.out ?_
  intro w6 hR hg
  have HD1 := aM (HD.out.put2 hR hg (by intro x hx; simp only [List.nil_append, List.cons_append, List.mem_cons, List.not_mem_nil, or_false] at hx; rcases hx with rfl | rfl | rfl <;> simp))
  clear HD hR hg
  have HD := HD1
  clear HD1
  refine hK.out _ _ ⟨(blk_cell ((HD.out).old HG.out HN0.out HN2.out) 2).trans rfl, (blk_cell ((HD.out).blk (g := gq) (cs := #[.int .i64 6, .int .i64 at_, .int .i64 n, .slice A4 qw.length c4, .slice A5 qb.length c5, .int .i64 wat]) (t := 36) (by simp)) 1).trans rfl, (blk_cell ((HD.out).blk (g := gq) (cs := #[.int .i64 6, .int .i64 at_, .int .i64 n, .slice A4 qw.length c4, .slice A5 qb.length c5, .int .i64 wat]) (t := 36) (by simp)) 3).trans rfl⟩ (fun hHeld => ?_)
  clear hK K
  refine norm_ (a' := ?_) ?_ ?_
  rotate_left
  · show Act.put _ (some 103) _ = _
    simp only [Act.put, List.setIfInBounds_toArray, List.set_cons_zero, List.set_cons_succ, i64_w, i32_w]
    rfl
  refine done_ (by kernel_rfl) ?_
  clear hz0 fz0 hz1 fz1 hz2 fz2 hz3 fz3 hz4 fz4 hz5 fz5
  obtain ⟨hz0, fz0, hz1, fz1, hz2, fz2, hz3, fz3, hz4, fz4, hz5, fz5⟩ := bk6 (HD.out.blk (g := gq) (cs := #[.int .i64 6, .int .i64 at_, .int .i64 n, .slice A4 qw.length c4, .slice A5 qb.length c5, .int .i64 wat]) (t := 36) (by simp)); obtain ⟨hx0, fx0, hx1, fx1, hx2, fx2, hx3, fx3, hx4, fx4, hx5, fx5⟩ := bk6 (HD.out.blk (g := ga) (cs := #[.int .i64 6, .int .i64 0, .int .i64 0, .int .i64 0, .slice none 0 0, .slice none 0 0]) (t := 32) (by simp))
  go_upto_region 29 with ((with_reducible refine gate_store (t := 3) (p := 106) rfl ?_); refine store_event (t := 3) (p := 106) (v := ?vo_106) (w1 := World.setCell w6 ⟨ga, 2, none⟩ (.int .i64 at_)) ?hg ?ho ?hn ?hr ?_; (case ho => rfl); (case hg => rfl); (case hn => rfl); (case hr => first | (go_simp; done) | (go_simp; rfl)); intro w8 hw8; have HD1 := aM (show DX w0 w w8 _ _ _ _ _ _ _ _ _ from by rw [hw8]; exact HD.out.cell [] [(gr, #[.int .i64 0, .int .i64 0, .int .i64 0, .int .i64 0, .slice none 0 0, .slice none 0 0], 32), (gq, #[.int .i64 6, .int .i64 at_, .int .i64 n, .slice A4 qw.length c4, .slice A5 qb.length c5, .int .i64 wat], 36)] (cs := #[.int .i64 6, .int .i64 0, .int .i64 0, .int .i64 0, .slice none 0 0, .slice none 0 0]) (cs' := #[.int .i64 6, .int .i64 0, .int .i64 at_, .int .i64 0, .slice none 0 0, .slice none 0 0]) 2 (.int .i64 at_)); clear hw8 HD; have HD := HD1; clear HD1; clear hz0 fz0 hz1 fz1 hz2 fz2 hz3 fz3 hz4 fz4 hz5 fz5 hx0 fx0 hx1 fx1 hx2 fx2 hx3 fx3 hx4 fx4 hx5 fx5; obtain ⟨hz0, fz0, hz1, fz1, hz2, fz2, hz3, fz3, hz4, fz4, hz5, fz5⟩ := bk6 (HD.out.blk (g := gq) (cs := #[.int .i64 6, .int .i64 at_, .int .i64 n, .slice A4 qw.length c4, .slice A5 qb.length c5, .int .i64 wat]) (t := 36) (by simp)); obtain ⟨hx0, fx0, hx1, fx1, hx2, fx2, hx3, fx3, hx4, fx4, hx5, fx5⟩ := bk6 (HD.out.blk (g := ga) (cs := #[.int .i64 6, .int .i64 0, .int .i64 at_, .int .i64 0, .slice none 0 0, .slice none 0 0]) (t := 32) (by simp)))
  refine start_ (n := 10) (S := fun w' => w'.cell? ⟨gq, 4, none⟩ = some (.slice A5 qb.length c5) ∧ w'.cell? ⟨gq, 3, none⟩ = some (.slice A4 qw.length c4) ∧ w'.cell? ⟨gq, 1, none⟩ = some (.int .i64 at_)) (ds := []) (flg 0 10) (by kernel_rfl) rfl rfl ⟨(blk_cell ((HD.out.drew).blk (g := gq) (cs := #[.int .i64 6, .int .i64 at_, .int .i64 n, .slice A4 qw.length c4, .slice A5 qb.length c5, .int .i64 wat]) (t := 36) (by simp)) 4).trans rfl, (blk_cell ((HD.out.drew).blk (g := gq) (cs := #[.int .i64 6, .int .i64 at_, .int .i64 n, .slice A4 qw.length c4, .slice A5 qb.length c5, .int .i64 wat]) (t := 36) (by simp)) 3).trans rfl, (blk_cell ((HD.out.drew).blk (g := gq) (cs := #[.int .i64 6, .int .i64 at_, .int .i64 n, .slice A4 qw.length c4, .slice A5 qb.length c5, .int .i64 wat]) (t := 36) (by simp)) 1).trans rfl⟩ (fun hHeld => ?_)
  have HD1 := aM HD.out.drew
  clear HD hz0 fz0 hz1 fz1 hz2 fz2 hz3 fz3 hz4 fz4 hz5 fz5 hx0 fx0 hx1 fx1 hx2 fx2 hx3 fx3 hx4 fx4 hx5 fx5
  generalize w8.drew = w9 at HD1 hHeld ⊢
  have HD := HD1
  clear HD1
  refine pk (i := 0) (N := some 174) (flg 1 10) ?_
  refine tk3 (i := 1) (N := some 175) (flg 2 10) hHeld ?_
  refine pk (i := 3) (N := some 177) #[true, true, false, true, false, false, false, false, false, false] ?_
  refine tk3 (i := 4) (N := some 178) #[true, true, false, true, true, false, false, false, false, false] hHeld ?_
  refine one_ (i := 2) (N := some 176) (flg 5 10) rfl rfl (by kernel_rfl) (by decide) (fun K hK => ?_)
  refine goes_ Try.func58 (by kernel_rfl) rfl #[.slice A5 qb.length c5] (by rfl) rfl rfl (by (try simp only [List.map_toArray, List.map_cons, List.map_nil]); first | done | rfl) ?_
  refine (slices_Clone_bool_bool.calls A5 c5 qb qb _ (Kd.C_below HC5.out HD.out.2.2.2.1) Hc5.out hb5.out).mono ?_
  rintro e w10 ⟨v10, rfl, ho, hb_⟩
  refine ⟨_, rfl, ?_⟩
  have HV := aM (Kd.R_lower ho HD.out.2.2.2.2.1)
  have HD1 := aM (HD.out.below hb_)
  clear ho hb_ HD
  have HD := HD1
  clear HD1
  obtain ⟨Av, cv, ev⟩ := Kd.R_slice HV.out
  subst ev
  refine hK.out _ _ ⟨(blk_cell ((HD.out).blk (g := gq) (cs := #[.int .i64 6, .int .i64 at_, .int .i64 n, .slice A4 qw.length c4, .slice A5 qb.length c5, .int .i64 wat]) (t := 36) (by simp)) 4).trans rfl, (blk_cell ((HD.out).blk (g := gq) (cs := #[.int .i64 6, .int .i64 at_, .int .i64 n, .slice A4 qw.length c4, .slice A5 qb.length c5, .int .i64 wat]) (t := 36) (by simp)) 3).trans rfl, (blk_cell ((HD.out).blk (g := gq) (cs := #[.int .i64 6, .int .i64 at_, .int .i64 n, .slice A4 qw.length c4, .slice A5 qb.length c5, .int .i64 wat]) (t := 36) (by simp)) 1).trans rfl⟩ (fun hHeld => ?_)
  clear hK K
  refine norm_ (a' := ?_) ?_ ?_
  rotate_left
  · show Act.put _ (some 176) _ = _
    simp only [Act.put, List.setIfInBounds_toArray, List.set_cons_zero, List.set_cons_succ, i64_w, i32_w]
    rfl
  refine pk (i := 6) (N := some 180) #[true, true, true, true, true, false, true, false, false, false] ?_
  refine one_ (i := 5) (N := some 179) (flg 7 10) rfl rfl (by kernel_rfl) (by decide) (fun K hK => ?_)
  refine goes_ Try.func59 (by kernel_rfl) rfl #[.slice A4 qw.length c4] (by rfl) rfl rfl (by (try simp only [List.map_toArray, List.map_cons, List.map_nil]); first | done | rfl) ?_
  refine (slices_Clone_int_int.calls A4 c4 qw qw _ (Kd.C_below HC4.out HD.out.2.2.2.1) Hc4.out hw5.out).mono ?_
  rintro e w11 ⟨v11, rfl, ho, hb_⟩
  refine ⟨_, rfl, ?_⟩
  have HV2 := aM (Kd.R_lower ho HD.out.2.2.2.2.1)
  have HD1 := aM (HD.out.below hb_)
  have HV1 := aM (Kd.R_below HV.out hb_)
  clear HV
  have HV := HV1
  clear HV1
  clear ho hb_ HD
  have HD := HD1
  clear HD1
  obtain ⟨Au, cu, eu⟩ := Kd.R_slice HV2.out
  subst eu
  refine hK.out _ _ ⟨(blk_cell ((HD.out).blk (g := gq) (cs := #[.int .i64 6, .int .i64 at_, .int .i64 n, .slice A4 qw.length c4, .slice A5 qb.length c5, .int .i64 wat]) (t := 36) (by simp)) 4).trans rfl, (blk_cell ((HD.out).blk (g := gq) (cs := #[.int .i64 6, .int .i64 at_, .int .i64 n, .slice A4 qw.length c4, .slice A5 qb.length c5, .int .i64 wat]) (t := 36) (by simp)) 3).trans rfl, (blk_cell ((HD.out).blk (g := gq) (cs := #[.int .i64 6, .int .i64 at_, .int .i64 n, .slice A4 qw.length c4, .slice A5 qb.length c5, .int .i64 wat]) (t := 36) (by simp)) 1).trans rfl⟩ (fun hHeld => ?_)
  clear hK K
  refine norm_ (a' := ?_) ?_ ?_
  rotate_left
  · show Act.put _ (some 179) _ = _
    simp only [Act.put, List.setIfInBounds_toArray, List.set_cons_zero, List.set_cons_succ, i64_w, i32_w]
    rfl
  refine one_ (i := 7) (N := none) (flg 8 10) rfl rfl (by kernel_rfl) (by decide) (fun K hK => ?_)
  obtain ⟨hx0, fx0, hx1, fx1, hx2, fx2, hx3, fx3, hx4, fx4, hx5, fx5⟩ := bk6 (HD.out.blk (g := ga) (cs := #[.int .i64 6, .int .i64 0, .int .i64 at_, .int .i64 0, .slice none 0 0, .slice none 0 0]) (t := 32) (by simp))
  refine skip_ (w1 := ?_) (by rfl) rfl ?_ ?_
  rotate_left
  · go_simp
    rfl
  have HV1 := aM (R_cell_ HV.out (HD.out.blk (g := ga) (cs := #[.int .i64 6, .int .i64 0, .int .i64 at_, .int .i64 0, .slice none 0 0, .slice none 0 0]) (t := 32) (by simp)) (by decide) 5 (.slice Av qb.length cv))
  have HV21 := aM (R_cell_ HV2.out (HD.out.blk (g := ga) (cs := #[.int .i64 6, .int .i64 0, .int .i64 at_, .int .i64 0, .slice none 0 0, .slice none 0 0]) (t := 32) (by simp)) (by decide) 5 (.slice Av qb.length cv))
  have HD1 := aM (HD.out.cell [] [(gr, #[.int .i64 0, .int .i64 0, .int .i64 0, .int .i64 0, .slice none 0 0, .slice none 0 0], 32), (gq, #[.int .i64 6, .int .i64 at_, .int .i64 n, .slice A4 qw.length c4, .slice A5 qb.length c5, .int .i64 wat], 36)] (cs := #[.int .i64 6, .int .i64 0, .int .i64 at_, .int .i64 0, .slice none 0 0, .slice none 0 0]) (cs' := #[.int .i64 6, .int .i64 0, .int .i64 at_, .int .i64 0, .slice none 0 0, .slice Av qb.length cv]) 5 (.slice Av qb.length cv))
  clear HV HV2 HD hx0 fx0 hx1 fx1 hx2 fx2 hx3 fx3 hx4 fx4 hx5 fx5
  generalize World.setCell _ _ _ = w7 at HV1 HV21 HD1 ⊢
  have HV := HV1
  clear HV1
  have HV2 := HV21
  clear HV21
  have HD := HD1
  clear HD1
  refine hK.out _ _ ⟨(blk_cell ((HD.out).blk (g := gq) (cs := #[.int .i64 6, .int .i64 at_, .int .i64 n, .slice A4 qw.length c4, .slice A5 qb.length c5, .int .i64 wat]) (t := 36) (by simp)) 4).trans rfl, (blk_cell ((HD.out).blk (g := gq) (cs := #[.int .i64 6, .int .i64 at_, .int .i64 n, .slice A4 qw.length c4, .slice A5 qb.length c5, .int .i64 wat]) (t := 36) (by simp)) 3).trans rfl, (blk_cell ((HD.out).blk (g := gq) (cs := #[.int .i64 6, .int .i64 at_, .int .i64 n, .slice A4 qw.length c4, .slice A5 qb.length c5, .int .i64 wat]) (t := 36) (by simp)) 1).trans rfl⟩ (fun hHeld => ?_)
  clear hK K
  refine pk (i := 8) (N := some 181) (flg 9 10) ?_
  refine one_ (i := 9) (N := none) (flg 10 10) rfl rfl (by kernel_rfl) (by decide) (fun K hK => ?_)
  obtain ⟨hx0, fx0, hx1, fx1, hx2, fx2, hx3, fx3, hx4, fx4, hx5, fx5⟩ := bk6 (HD.out.blk (g := ga) (cs := #[.int .i64 6, .int .i64 0, .int .i64 at_, .int .i64 0, .slice none 0 0, .slice Av qb.length cv]) (t := 32) (by simp))
  refine skip_ (w1 := ?_) (by rfl) rfl ?_ ?_
  rotate_left
  · go_simp
    rfl
  have HV1 := aM (R_cell_ HV.out (HD.out.blk (g := ga) (cs := #[.int .i64 6, .int .i64 0, .int .i64 at_, .int .i64 0, .slice none 0 0, .slice Av qb.length cv]) (t := 32) (by simp)) (by decide) 4 (.slice Au qw.length cu))
  have HV21 := aM (R_cell_ HV2.out (HD.out.blk (g := ga) (cs := #[.int .i64 6, .int .i64 0, .int .i64 at_, .int .i64 0, .slice none 0 0, .slice Av qb.length cv]) (t := 32) (by simp)) (by decide) 4 (.slice Au qw.length cu))
  have HD1 := aM (HD.out.cell [] [(gr, #[.int .i64 0, .int .i64 0, .int .i64 0, .int .i64 0, .slice none 0 0, .slice none 0 0], 32), (gq, #[.int .i64 6, .int .i64 at_, .int .i64 n, .slice A4 qw.length c4, .slice A5 qb.length c5, .int .i64 wat], 36)] (cs := #[.int .i64 6, .int .i64 0, .int .i64 at_, .int .i64 0, .slice none 0 0, .slice Av qb.length cv]) (cs' := #[.int .i64 6, .int .i64 0, .int .i64 at_, .int .i64 0, .slice Au qw.length cu, .slice Av qb.length cv]) 4 (.slice Au qw.length cu))
  clear HV HV2 HD hx0 fx0 hx1 fx1 hx2 fx2 hx3 fx3 hx4 fx4 hx5 fx5
  generalize World.setCell _ _ _ = w7 at HV1 HV21 HD1 ⊢
  have HV := HV1
  clear HV1
  have HV2 := HV21
  clear HV21
  have HD := HD1
  clear HD1
  refine hK.out _ _ ⟨(blk_cell ((HD.out).blk (g := gq) (cs := #[.int .i64 6, .int .i64 at_, .int .i64 n, .slice A4 qw.length c4, .slice A5 qb.length c5, .int .i64 wat]) (t := 36) (by simp)) 4).trans rfl, (blk_cell ((HD.out).blk (g := gq) (cs := #[.int .i64 6, .int .i64 at_, .int .i64 n, .slice A4 qw.length c4, .slice A5 qb.length c5, .int .i64 wat]) (t := 36) (by simp)) 3).trans rfl, (blk_cell ((HD.out).blk (g := gq) (cs := #[.int .i64 6, .int .i64 at_, .int .i64 n, .slice A4 qw.length c4, .slice A5 qb.length c5, .int .i64 wat]) (t := 36) (by simp)) 1).trans rfl⟩ (fun hHeld => ?_)
  clear hK K
  refine done_ (by kernel_rfl) ?_
  obtain ⟨hz0, fz0, hz1, fz1, hz2, fz2, hz3, fz3, hz4, fz4, hz5, fz5⟩ := bk6 (HD.out.blk (g := gq) (cs := #[.int .i64 6, .int .i64 at_, .int .i64 n, .slice A4 qw.length c4, .slice A5 qb.length c5, .int .i64 wat]) (t := 36) (by simp))
  clear hz0 fz0 hz1 fz1 hz2 fz2 hz3 fz3 hz4 fz4 hz5 fz5
  obtain ⟨hz0, fz0, hz1, fz1, hz2, fz2, hz3, fz3, hz4, fz4, hz5, fz5⟩ := bk6 (HD.out.blk (g := gq) (cs := #[.int .i64 6, .int .i64 at_, .int .i64 n, .slice A4 qw.length c4, .slice A5 qb.length c5, .int .i64 wat]) (t := 36) (by simp))
  go_wp2_with (first | ((with_reducible refine gate_dst (N := 188) rfl ?_); refine wpList_load_row rfl 32 (.tmp 5) rfl ga rfl 32 #[.int .i64 6, .int .i64 0, .int .i64 at_, .int .i64 0, .slice Au qw.length cu, .slice Av qb.length cv] (0, 0) _ (HD.out.blk (by simp)) hu32 rfl (by kernel_rfl) ?_) | ((with_reducible refine gate_store (t := 32) (p := 4) rfl ?_); refine wpList_store_row rfl 32 (.tmp 4) (.tmp 188) rfl gr #[.int .i64 6, .int .i64 0, .int .i64 at_, .int .i64 0, .slice Au qw.length cu, .slice Av qb.length cv] rfl rfl 32 #[.int .i64 0, .int .i64 0, .int .i64 0, .int .i64 0, .slice none 0 0, .slice none 0 0] (HD.out.blk (cs := #[.int .i64 0, .int .i64 0, .int .i64 0, .int .i64 0, .slice none 0 0, .slice none 0 0]) (t := 32) (by simp)) (by kernel_rfl) rfl (by simp [Value.oneCell']) ?_; have HD1 := aM (HD.out.row [(ga, #[.int .i64 6, .int .i64 0, .int .i64 at_, .int .i64 0, .slice Au qw.length cu, .slice Av qb.length cv], 32)] [(gq, #[.int .i64 6, .int .i64 at_, .int .i64 n, .slice A4 qw.length c4, .slice A5 qb.length c5, .int .i64 wat], 36)] #[.int .i64 6, .int .i64 0, .int .i64 at_, .int .i64 0, .slice Au qw.length cu, .slice Av qb.length cv]); (try (have HV1 := aM (R_row HV.out (HD.out.blk (g := gr) (cs := #[.int .i64 0, .int .i64 0, .int .i64 0, .int .i64 0, .slice none 0 0, .slice none 0 0]) (t := 32) (by simp)) (by decide) #[.int .i64 6, .int .i64 0, .int .i64 at_, .int .i64 0, .slice Au qw.length cu, .slice Av qb.length cv]); clear HV; have HV := HV1; clear HV1)); (try (have HV1 := aM (R_row HV2.out (HD.out.blk (g := gr) (cs := #[.int .i64 0, .int .i64 0, .int .i64 0, .int .i64 0, .slice none 0 0, .slice none 0 0]) (t := 32) (by simp)) (by decide) #[.int .i64 6, .int .i64 0, .int .i64 at_, .int .i64 0, .slice Au qw.length cu, .slice Av qb.length cv]); clear HV2; have HV2 := HV1; clear HV1)); clear HD; have HD := HD1; clear HD1))
  refine bodyPost_ret (results_cell_row rfl _ _ gr 32 #[.int .i64 6, .int .i64 0, .int .i64 at_, .int .i64 0, .slice Au qw.length cu, .slice Av qb.length cv] (0, 0) _ rfl (HD.out.blk (by simp)) hu32 rfl (by kernel_rfl)) rfl ?_
  exact ⟨_, _, rfl, HD.out.rows, HV2.out, HV.out, HD.out.2.2.2.1, HD.out.2.2.2.2⟩
set_option maxHeartbeats 4000000 in
set_option maxRecDepth 100000 in
theorem does_15 (g : Nat) (A0 A1 A2 A3 : Option Addr) (c0 c1 c2 c3 : Nat) (l0 l1 : List Bool) (l2 l3 : List Int) (at_ n wat : Int) (A4 A5 : Option Addr) (c4 c5 : Nat) (qw : List Int) (qb : List Bool) (w0 w : World)
    (hb : w.heap[g]? = some (.cells #[.slice A0 l0.length c0, .slice A1 l1.length c1, .slice A2 l2.length c2, .slice A3 l3.length c3] 30 (0, 0))) (hD : DX w0 w w [] (.slice A0 l0.length c0) (.slice A1 l1.length c1) (.slice A2 l2.length c2) (.slice A3 l3.length c3) l0 l1 l2 l3) (hC4 : Kd.C (Kd.int .i64) w0 A4 qw.length qw) (hc4 : qw.length ≤ c4) (hC5 : Kd.C Kd.bool w0 A5 qb.length qb) (hc5 : qb.length ≤ c5)
    (h0 : 0 ≤ at_) (h2 : at_ + (qb.length : Int) ≤ (l0.length : Int)) (m : Int) (hm : impl_written.f 15 at_ n qw qb wat = some m) :
    Calls Try.prog 46 #[.pointer (some ⟨g, 0, none⟩), .agg #[.int .i64 15, .int .i64 at_, .int .i64 n, .slice A4 qw.length c4, .slice A5 qb.length c5, .int .i64 wat]] w (DoesPost w0 w (.slice A0 l0.length c0) (.slice A1 l1.length c1) (.slice A2 l2.length c2) (.slice A3 l3.length c3) (over l0 at_.toNat qb) l1 l2 l3 15 at_ m [] []) := by
  have hroom : l0.length ≤ c0 := (Kd.R_reads' hD.rows.1).2.1
  obtain ⟨i0, hi, hz⟩ := Option.map_eq_some_iff.1 infoDb
  simp only [Prod.mk.injEq] at hz
  have hsz : (Try.prog.info? 4).map (·.size) = some 1 := by rw [hi]; simp [hz.2.1]
  have hcut_ := cut_from (P := Try.prog) 22 4 .i64 Try.underlying22 hi 1 hz.2.1 A0 l0.length c0 at_ h0 (by omega)
  obtain ⟨AD, hAD⟩ : ∃ AD, AD = (if c0 = at_.toNat then A0 else A0.map (·.add (at_.toNat * 1))) := ⟨_, rfl⟩
  obtain ⟨ND, hND⟩ : ∃ ND, ND = l0.length - at_.toNat := ⟨_, rfl⟩
  obtain ⟨CD, hCD⟩ : ∃ CD, CD = c0 - at_.toNat := ⟨_, rfl⟩
  rw [← hAD, ← hND, ← hCD] at hcut_
  have HAD := aM hAD
  have HND := aM hND
  have HCD := aM hCD
  have HS := aM hsz
  have HO := aM (show at_.toNat + qb.length ≤ l0.length by omega)
  clear hAD hND hCD hsz hi hz hroom
  clear h0 h2
  replace hm := aM hm
  have hu30 := Try.underlying30
  have hu36 := Try.underlying36
  have hu32 := Try.underlying32
  have HG := aM hb
  have HN0 := aM (hD.rows.ne0 hb (by decide))
  have HN2 := aM (hD.rows.ne2 hb (by decide))
  have HD := aM hD
  have HC4 := aM hC4
  have HC5 := aM hC5
  have Hc4 := aM hc4
  have Hc5 := aM hc5
  clear hb hD hC4 hC5 hc4 hc5
  go_enter Try.func46, Try.ntmps46
  go_wp2_with (first | ((with_reducible refine gate_dst (N := 3) rfl ?_); refine box_event ?hg (N := 3) ?hd (cs := #[.int .i64 15, .int .i64 at_, .int .i64 n, .slice A4 qw.length c4, .slice A5 qb.length c5, .int .i64 wat]) (t := 36) ?hr ?_; (case hd => rfl); (case hg => rfl); (case hr => first | (go_simp; done) | (go_simp; rfl)); intro gq hg _ hbox hb_; have HD1 := aM (HD.out.box hg hbox hb_); clear HD hg hbox hb_; have HD := HD1; clear HD1; obtain ⟨hy0, gy0, hy1, gy1, hy2, gy2, hy3, gy3, hy4, gy4, hy5, gy5⟩ := bk6 (HD.out.blk (g := gq) (cs := #[.int .i64 15, .int .i64 at_, .int .i64 n, .slice A4 qw.length c4, .slice A5 qb.length c5, .int .i64 wat]) (t := 36) (by simp))) | ((with_reducible refine gate_dst (N := 4) rfl ?_); refine box_event ?hg (N := 4) ?hd (cs := #[.int .i64 0, .int .i64 0, .int .i64 0, .int .i64 0, .slice none 0 0, .slice none 0 0]) (t := 32) ?hr ?_; (case hd => rfl); (case hg => rfl); (case hr => first | (go_simp; done) | (go_simp; rfl)); intro gr hg _ hbox hb_; have HD1 := aM (HD.out.box hg hbox hb_); clear HD hg hbox hb_; have HD := HD1; clear HD1; clear hy0 gy0 hy1 gy1 hy2 gy2 hy3 gy3 hy4 gy4 hy5 gy5; obtain ⟨hy0, gy0, hy1, gy1, hy2, gy2, hy3, gy3, hy4, gy4, hy5, gy5⟩ := bk6 (HD.out.blk (g := gq) (cs := #[.int .i64 15, .int .i64 at_, .int .i64 n, .slice A4 qw.length c4, .slice A5 qb.length c5, .int .i64 wat]) (t := 36) (by simp))) | ((with_reducible refine gate_dst (N := 5) rfl ?_); refine box_event ?hg (N := 5) ?hd (cs := #[.int .i64 0, .int .i64 0, .int .i64 0, .int .i64 0, .slice none 0 0, .slice none 0 0]) (t := 32) ?hr ?_; (case hd => rfl); (case hg => rfl); (case hr => first | (go_simp; done) | (go_simp; rfl)); intro ga hg _ hbox hb_; have HD1 := aM (HD.out.box hg hbox hb_); clear HD hg hbox hb_; have HD := HD1; clear HD1; clear hy0 gy0 hy1 gy1 hy2 gy2 hy3 gy3 hy4 gy4 hy5 gy5) | ((with_reducible refine gate_store (t := 32) (p := 5) rfl ?_); refine wpList_store_row rfl 32 (.tmp 5) (.tmp 8) rfl ga #[.int .i64 15, .int .i64 0, .int .i64 0, .int .i64 0, .slice none 0 0, .slice none 0 0] rfl rfl 32 #[.int .i64 0, .int .i64 0, .int .i64 0, .int .i64 0, .slice none 0 0, .slice none 0 0] (HD.out.blk (cs := #[.int .i64 0, .int .i64 0, .int .i64 0, .int .i64 0, .slice none 0 0, .slice none 0 0]) (t := 32) (by simp)) (by kernel_rfl) rfl (by simp [Value.oneCell']) ?_; have HD1 := aM (HD.out.row [] [(gr, #[.int .i64 0, .int .i64 0, .int .i64 0, .int .i64 0, .slice none 0 0, .slice none 0 0], 32), (gq, #[.int .i64 15, .int .i64 at_, .int .i64 n, .slice A4 qw.length c4, .slice A5 qb.length c5, .int .i64 wat], 36)] #[.int .i64 15, .int .i64 0, .int .i64 0, .int .i64 0, .slice none 0 0, .slice none 0 0]); clear HD; generalize World.setRow _ _ _ = w4 at HD1 ⊢; have HD := HD1; clear HD1; obtain ⟨hz0, fz0, hz1, fz1, hz2, fz2, hz3, fz3, hz4, fz4, hz5, fz5⟩ := bk6 (HD.out.blk (g := gq) (cs := #[.int .i64 15, .int .i64 at_, .int .i64 n, .slice A4 qw.length c4, .slice A5 qb.length c5, .int .i64 wat]) (t := 36) (by simp))))
  refine start_ (n := 10) (S := fun w' => w'.cell? ⟨g, 0, none⟩ = some (.slice A0 l0.length c0) ∧ w'.cell? ⟨gq, 1, none⟩ = some (.int .i64 at_) ∧ w'.cell? ⟨gq, 4, none⟩ = some (.slice A5 qb.length c5)) (ds := []) (flg 0 10) (by kernel_rfl) rfl rfl ⟨(blk_cell ((HD.out.drew).old HG.out HN0.out HN2.out) 0).trans rfl, (blk_cell ((HD.out.drew).blk (g := gq) (cs := #[.int .i64 15, .int .i64 at_, .int .i64 n, .slice A4 qw.length c4, .slice A5 qb.length c5, .int .i64 wat]) (t := 36) (by simp)) 1).trans rfl, (blk_cell ((HD.out.drew).blk (g := gq) (cs := #[.int .i64 15, .int .i64 at_, .int .i64 n, .slice A4 qw.length c4, .slice A5 qb.length c5, .int .i64 wat]) (t := 36) (by simp)) 4).trans rfl⟩ (fun hHeld => ?_)
  have HD1 := aM HD.out.drew
  clear HD
  generalize w4.drew = w5 at HD1 hHeld ⊢
  have HD := HD1
  clear HD1
  refine pk (i := 0) (N := some 78) (flg 1 10) ?_
  refine pk (i := 1) (N := some 79) (flg 2 10) ?_
  refine pk (i := 2) (N := some 80) (flg 3 10) ?_
  refine tk3 (i := 3) (N := some 81) (flg 4 10) hHeld ?_
  refine pk (i := 4) (N := some 82) (flg 5 10) ?_
  refine tk3 (i := 5) (N := some 83) (flg 6 10) hHeld ?_
  refine pk (i := 6) (N := some 84) (flg 7 10) ?_
  refine pk (i := 7) (N := some 85) (flg 8 10) ?_
  refine tk3 (i := 8) (N := some 86) (flg 9 10) hHeld ?_
  refine one_ (i := 9) (N := some 87) (flg 10 10) rfl rfl (by kernel_rfl) (by decide) (fun K hK => ?_)
  refine copy_ (enc := Value.bool) (h1 := fun _ => rfl) false (A := A0) (c := c0) (As := A5) (cs := c5) (xs := l0) (ys := qb) at_.toNat (by rfl) rfl rfl Try.underlying22 HS.out (by show Value.slice AD ND CD = _; rw [HAD.out, HND.out, HCD.out]) rfl HD.out.rows.1 (Kd.C_below HC5.out HD.out.2.2.2.1) HO.out ?_
  intro w6 hR hg
  have HD1 := aM (HD.out.put0 hR hg (by intro x hx; simp only [List.nil_append, List.cons_append, List.mem_cons, List.not_mem_nil, or_false] at hx; rcases hx with rfl | rfl | rfl <;> simp))
  clear HD hR hg
  have HD := HD1
  clear HD1
  refine hK.out _ _ ⟨(blk_cell ((HD.out).old HG.out HN0.out HN2.out) 0).trans rfl, (blk_cell ((HD.out).blk (g := gq) (cs := #[.int .i64 15, .int .i64 at_, .int .i64 n, .slice A4 qw.length c4, .slice A5 qb.length c5, .int .i64 wat]) (t := 36) (by simp)) 1).trans rfl, (blk_cell ((HD.out).blk (g := gq) (cs := #[.int .i64 15, .int .i64 at_, .int .i64 n, .slice A4 qw.length c4, .slice A5 qb.length c5, .int .i64 wat]) (t := 36) (by simp)) 4).trans rfl⟩ (fun hHeld => ?_)
  clear hK K
  refine norm_ (a' := ?_) ?_ ?_
  rotate_left
  · show Act.put _ (some 87) _ = _
    simp only [Act.put, List.setIfInBounds_toArray, List.set_cons_zero, List.set_cons_succ, i64_w, i32_w]
    rfl
  refine done_ (by kernel_rfl) ?_
  clear hz0 fz0 hz1 fz1 hz2 fz2 hz3 fz3 hz4 fz4 hz5 fz5
  obtain ⟨hz0, fz0, hz1, fz1, hz2, fz2, hz3, fz3, hz4, fz4, hz5, fz5⟩ := bk6 (HD.out.blk (g := gq) (cs := #[.int .i64 15, .int .i64 at_, .int .i64 n, .slice A4 qw.length c4, .slice A5 qb.length c5, .int .i64 wat]) (t := 36) (by simp)); obtain ⟨hx0, fx0, hx1, fx1, hx2, fx2, hx3, fx3, hx4, fx4, hx5, fx5⟩ := bk6 (HD.out.blk (g := ga) (cs := #[.int .i64 15, .int .i64 0, .int .i64 0, .int .i64 0, .slice none 0 0, .slice none 0 0]) (t := 32) (by simp))
  go_wp2_with (first | ((with_reducible refine gate_store (t := 3) (p := 90) rfl ?_); refine store_event (t := 3) (p := 90) (v := ?vo_90) (w1 := World.setCell w6 ⟨ga, 2, none⟩ (.int .i64 at_)) ?hg ?ho ?hn ?hr ?_; (case ho => rfl); (case hg => rfl); (case hn => rfl); (case hr => first | (go_simp; done) | (go_simp; rfl)); intro w8 hw8; have HD1 := aM (show DX w0 w w8 _ _ _ _ _ _ _ _ _ from by rw [hw8]; exact HD.out.cell [] [(gr, #[.int .i64 0, .int .i64 0, .int .i64 0, .int .i64 0, .slice none 0 0, .slice none 0 0], 32), (gq, #[.int .i64 15, .int .i64 at_, .int .i64 n, .slice A4 qw.length c4, .slice A5 qb.length c5, .int .i64 wat], 36)] (cs := #[.int .i64 15, .int .i64 0, .int .i64 0, .int .i64 0, .slice none 0 0, .slice none 0 0]) (cs' := #[.int .i64 15, .int .i64 0, .int .i64 at_, .int .i64 0, .slice none 0 0, .slice none 0 0]) 2 (.int .i64 at_)); clear hw8 HD; have HD := HD1; clear HD1; clear hz0 fz0 hz1 fz1 hz2 fz2 hz3 fz3 hz4 fz4 hz5 fz5 hx0 fx0 hx1 fx1 hx2 fx2 hx3 fx3 hx4 fx4 hx5 fx5; obtain ⟨hz0, fz0, hz1, fz1, hz2, fz2, hz3, fz3, hz4, fz4, hz5, fz5⟩ := bk6 (HD.out.blk (g := gq) (cs := #[.int .i64 15, .int .i64 at_, .int .i64 n, .slice A4 qw.length c4, .slice A5 qb.length c5, .int .i64 wat]) (t := 36) (by simp)); obtain ⟨hx0, fx0, hx1, fx1, hx2, fx2, hx3, fx3, hx4, fx4, hx5, fx5⟩ := bk6 (HD.out.blk (g := ga) (cs := #[.int .i64 15, .int .i64 0, .int .i64 at_, .int .i64 0, .slice none 0 0, .slice none 0 0]) (t := 32) (by simp))) | ((with_reducible refine gate_dst (N := 185) rfl ?_); refine wpList_load_row rfl 36 (.tmp 3) rfl gq rfl 36 #[.int .i64 15, .int .i64 at_, .int .i64 n, .slice A4 qw.length c4, .slice A5 qb.length c5, .int .i64 wat] (0, 0) _ (HD.out.blk (by simp)) hu36 rfl (by kernel_rfl) ?_) | ((with_reducible refine gate_callee (f := 45) rfl ?_); refine gL (some 186) rfl rfl Try.func45 (by kernel_rfl) rfl #[.agg #[.int .i64 15, .int .i64 at_, .int .i64 n, .slice A4 qw.length c4, .slice A5 qb.length c5, .int .i64 wat]] rfl ?_; refine (impl_written.calls 15 at_ n A4 c4 qw A5 c5 qb wat m _ (Kd.C_below HC4.out HD.out.2.2.2.1) Hc4.out (Kd.C_below HC5.out HD.out.2.2.2.1) Hc5.out hm.out).mono ?_; rintro e w9 ⟨rfl, hb_⟩; refine ⟨_, rfl, ?_⟩; have HD1 := aM (HD.out.below hb_); clear HD hb_; have HD := HD1; clear HD1; clear hz0 fz0 hz1 fz1 hz2 fz2 hz3 fz3 hz4 fz4 hz5 fz5 hx0 fx0 hx1 fx1 hx2 fx2 hx3 fx3 hx4 fx4 hx5 fx5; obtain ⟨hz0, fz0, hz1, fz1, hz2, fz2, hz3, fz3, hz4, fz4, hz5, fz5⟩ := bk6 (HD.out.blk (g := gq) (cs := #[.int .i64 15, .int .i64 at_, .int .i64 n, .slice A4 qw.length c4, .slice A5 qb.length c5, .int .i64 wat]) (t := 36) (by simp)); obtain ⟨hx0, fx0, hx1, fx1, hx2, fx2, hx3, fx3, hx4, fx4, hx5, fx5⟩ := bk6 (HD.out.blk (g := ga) (cs := #[.int .i64 15, .int .i64 0, .int .i64 at_, .int .i64 0, .slice none 0 0, .slice none 0 0]) (t := 32) (by simp))) | ((with_reducible refine gate_store (t := 3) (p := 187) rfl ?_); refine store_event (t := 3) (p := 187) (v := ?vo_187) (w1 := World.setCell w9 ⟨ga, 3, none⟩ (.int .i64 m)) ?hg ?ho ?hn ?hr ?_; (case ho => rfl); (case hg => rfl); (case hn => rfl); (case hr => first | (go_simp; done) | (go_simp; rfl)); intro w8 hw8; have HD1 := aM (show DX w0 w w8 _ _ _ _ _ _ _ _ _ from by rw [hw8]; exact HD.out.cell [] [(gr, #[.int .i64 0, .int .i64 0, .int .i64 0, .int .i64 0, .slice none 0 0, .slice none 0 0], 32), (gq, #[.int .i64 15, .int .i64 at_, .int .i64 n, .slice A4 qw.length c4, .slice A5 qb.length c5, .int .i64 wat], 36)] (cs := #[.int .i64 15, .int .i64 0, .int .i64 at_, .int .i64 0, .slice none 0 0, .slice none 0 0]) (cs' := #[.int .i64 15, .int .i64 0, .int .i64 at_, .int .i64 m, .slice none 0 0, .slice none 0 0]) 3 (.int .i64 m)); clear hw8 HD; have HD := HD1; clear HD1; clear hz0 fz0 hz1 fz1 hz2 fz2 hz3 fz3 hz4 fz4 hz5 fz5 hx0 fx0 hx1 fx1 hx2 fx2 hx3 fx3 hx4 fx4 hx5 fx5; obtain ⟨hz0, fz0, hz1, fz1, hz2, fz2, hz3, fz3, hz4, fz4, hz5, fz5⟩ := bk6 (HD.out.blk (g := gq) (cs := #[.int .i64 15, .int .i64 at_, .int .i64 n, .slice A4 qw.length c4, .slice A5 qb.length c5, .int .i64 wat]) (t := 36) (by simp)); obtain ⟨hx0, fx0, hx1, fx1, hx2, fx2, hx3, fx3, hx4, fx4, hx5, fx5⟩ := bk6 (HD.out.blk (g := ga) (cs := #[.int .i64 15, .int .i64 0, .int .i64 at_, .int .i64 m, .slice none 0 0, .slice none 0 0]) (t := 32) (by simp))) | ((with_reducible refine gate_dst (N := 188) rfl ?_); refine wpList_load_row rfl 32 (.tmp 5) rfl ga rfl 32 #[.int .i64 15, .int .i64 0, .int .i64 at_, .int .i64 m, .slice none 0 0, .slice none 0 0] (0, 0) _ (HD.out.blk (by simp)) hu32 rfl (by kernel_rfl) ?_) | ((with_reducible refine gate_store (t := 32) (p := 4) rfl ?_); refine wpList_store_row rfl 32 (.tmp 4) (.tmp 188) rfl gr #[.int .i64 15, .int .i64 0, .int .i64 at_, .int .i64 m, .slice none 0 0, .slice none 0 0] rfl rfl 32 #[.int .i64 0, .int .i64 0, .int .i64 0, .int .i64 0, .slice none 0 0, .slice none 0 0] (HD.out.blk (cs := #[.int .i64 0, .int .i64 0, .int .i64 0, .int .i64 0, .slice none 0 0, .slice none 0 0]) (t := 32) (by simp)) (by kernel_rfl) rfl (by simp [Value.oneCell']) ?_; have HD1 := aM (HD.out.row [(ga, #[.int .i64 15, .int .i64 0, .int .i64 at_, .int .i64 m, .slice none 0 0, .slice none 0 0], 32)] [(gq, #[.int .i64 15, .int .i64 at_, .int .i64 n, .slice A4 qw.length c4, .slice A5 qb.length c5, .int .i64 wat], 36)] #[.int .i64 15, .int .i64 0, .int .i64 at_, .int .i64 m, .slice none 0 0, .slice none 0 0]); clear HD; have HD := HD1; clear HD1))
  refine bodyPost_ret (results_cell_row rfl _ _ gr 32 #[.int .i64 15, .int .i64 0, .int .i64 at_, .int .i64 m, .slice none 0 0, .slice none 0 0] (0, 0) _ rfl (HD.out.blk (by simp)) hu32 rfl (by kernel_rfl)) rfl ?_
  exact ⟨_, _, rfl, HD.out.rows, Kd.R_nil _ _ _ _ _, Kd.R_nil _ _ _ _ _, HD.out.2.2.2.1, HD.out.2.2.2.2⟩
set_option maxHeartbeats 4000000 in
set_option maxRecDepth 100000 in
theorem does_16 (g : Nat) (A0 A1 A2 A3 : Option Addr) (c0 c1 c2 c3 : Nat) (l0 l1 : List Bool) (l2 l3 : List Int) (at_ n wat : Int) (A4 A5 : Option Addr) (c4 c5 : Nat) (qw : List Int) (qb : List Bool) (w0 w : World)
    (hb : w.heap[g]? = some (.cells #[.slice A0 l0.length c0, .slice A1 l1.length c1, .slice A2 l2.length c2, .slice A3 l3.length c3] 30 (0, 0))) (hD : DX w0 w w [] (.slice A0 l0.length c0) (.slice A1 l1.length c1) (.slice A2 l2.length c2) (.slice A3 l3.length c3) l0 l1 l2 l3) (hC4 : Kd.C (Kd.int .i64) w0 A4 qw.length qw) (hc4 : qw.length ≤ c4) (hC5 : Kd.C Kd.bool w0 A5 qb.length qb) (hc5 : qb.length ≤ c5)
    (h0 : 0 ≤ at_) (h2 : at_ + (qw.length : Int) ≤ (l2.length : Int)) (m : Int) (hm : impl_written.f 16 at_ n qw qb wat = some m) :
    Calls Try.prog 46 #[.pointer (some ⟨g, 0, none⟩), .agg #[.int .i64 16, .int .i64 at_, .int .i64 n, .slice A4 qw.length c4, .slice A5 qb.length c5, .int .i64 wat]] w (DoesPost w0 w (.slice A0 l0.length c0) (.slice A1 l1.length c1) (.slice A2 l2.length c2) (.slice A3 l3.length c3) l0 l1 (over l2 at_.toNat qw) l3 16 at_ m [] []) := by
  have hroom : l2.length ≤ c2 := (Kd.R_reads' hD.rows.2.2.1).2.1
  obtain ⟨i0, hi, hz⟩ := Option.map_eq_some_iff.1 infoDi
  simp only [Prod.mk.injEq] at hz
  have hsz : (Try.prog.info? 3).map (·.size) = some 1 := by rw [hi]; simp [hz.2.1]
  have hcut_ := cut_from (P := Try.prog) 23 3 .i64 Try.underlying23 hi 1 hz.2.1 A2 l2.length c2 at_ h0 (by omega)
  obtain ⟨AD, hAD⟩ : ∃ AD, AD = (if c2 = at_.toNat then A2 else A2.map (·.add (at_.toNat * 1))) := ⟨_, rfl⟩
  obtain ⟨ND, hND⟩ : ∃ ND, ND = l2.length - at_.toNat := ⟨_, rfl⟩
  obtain ⟨CD, hCD⟩ : ∃ CD, CD = c2 - at_.toNat := ⟨_, rfl⟩
  rw [← hAD, ← hND, ← hCD] at hcut_
  have HAD := aM hAD
  have HND := aM hND
  have HCD := aM hCD
  have HS := aM hsz
  have HO := aM (show at_.toNat + qw.length ≤ l2.length by omega)
  clear hAD hND hCD hsz hi hz hroom
  clear h0 h2
  replace hm := aM hm
  have hu30 := Try.underlying30
  have hu36 := Try.underlying36
  have hu32 := Try.underlying32
  have HG := aM hb
  have HN0 := aM (hD.rows.ne0 hb (by decide))
  have HN2 := aM (hD.rows.ne2 hb (by decide))
  have HD := aM hD
  have HC4 := aM hC4
  have HC5 := aM hC5
  have Hc4 := aM hc4
  have Hc5 := aM hc5
  clear hb hD hC4 hC5 hc4 hc5
  go_enter Try.func46, Try.ntmps46
  go_wp2_with (first | ((with_reducible refine gate_dst (N := 3) rfl ?_); refine box_event ?hg (N := 3) ?hd (cs := #[.int .i64 16, .int .i64 at_, .int .i64 n, .slice A4 qw.length c4, .slice A5 qb.length c5, .int .i64 wat]) (t := 36) ?hr ?_; (case hd => rfl); (case hg => rfl); (case hr => first | (go_simp; done) | (go_simp; rfl)); intro gq hg _ hbox hb_; have HD1 := aM (HD.out.box hg hbox hb_); clear HD hg hbox hb_; have HD := HD1; clear HD1; obtain ⟨hy0, gy0, hy1, gy1, hy2, gy2, hy3, gy3, hy4, gy4, hy5, gy5⟩ := bk6 (HD.out.blk (g := gq) (cs := #[.int .i64 16, .int .i64 at_, .int .i64 n, .slice A4 qw.length c4, .slice A5 qb.length c5, .int .i64 wat]) (t := 36) (by simp))) | ((with_reducible refine gate_dst (N := 4) rfl ?_); refine box_event ?hg (N := 4) ?hd (cs := #[.int .i64 0, .int .i64 0, .int .i64 0, .int .i64 0, .slice none 0 0, .slice none 0 0]) (t := 32) ?hr ?_; (case hd => rfl); (case hg => rfl); (case hr => first | (go_simp; done) | (go_simp; rfl)); intro gr hg _ hbox hb_; have HD1 := aM (HD.out.box hg hbox hb_); clear HD hg hbox hb_; have HD := HD1; clear HD1; clear hy0 gy0 hy1 gy1 hy2 gy2 hy3 gy3 hy4 gy4 hy5 gy5; obtain ⟨hy0, gy0, hy1, gy1, hy2, gy2, hy3, gy3, hy4, gy4, hy5, gy5⟩ := bk6 (HD.out.blk (g := gq) (cs := #[.int .i64 16, .int .i64 at_, .int .i64 n, .slice A4 qw.length c4, .slice A5 qb.length c5, .int .i64 wat]) (t := 36) (by simp))) | ((with_reducible refine gate_dst (N := 5) rfl ?_); refine box_event ?hg (N := 5) ?hd (cs := #[.int .i64 0, .int .i64 0, .int .i64 0, .int .i64 0, .slice none 0 0, .slice none 0 0]) (t := 32) ?hr ?_; (case hd => rfl); (case hg => rfl); (case hr => first | (go_simp; done) | (go_simp; rfl)); intro ga hg _ hbox hb_; have HD1 := aM (HD.out.box hg hbox hb_); clear HD hg hbox hb_; have HD := HD1; clear HD1; clear hy0 gy0 hy1 gy1 hy2 gy2 hy3 gy3 hy4 gy4 hy5 gy5) | ((with_reducible refine gate_store (t := 32) (p := 5) rfl ?_); refine wpList_store_row rfl 32 (.tmp 5) (.tmp 8) rfl ga #[.int .i64 16, .int .i64 0, .int .i64 0, .int .i64 0, .slice none 0 0, .slice none 0 0] rfl rfl 32 #[.int .i64 0, .int .i64 0, .int .i64 0, .int .i64 0, .slice none 0 0, .slice none 0 0] (HD.out.blk (cs := #[.int .i64 0, .int .i64 0, .int .i64 0, .int .i64 0, .slice none 0 0, .slice none 0 0]) (t := 32) (by simp)) (by kernel_rfl) rfl (by simp [Value.oneCell']) ?_; have HD1 := aM (HD.out.row [] [(gr, #[.int .i64 0, .int .i64 0, .int .i64 0, .int .i64 0, .slice none 0 0, .slice none 0 0], 32), (gq, #[.int .i64 16, .int .i64 at_, .int .i64 n, .slice A4 qw.length c4, .slice A5 qb.length c5, .int .i64 wat], 36)] #[.int .i64 16, .int .i64 0, .int .i64 0, .int .i64 0, .slice none 0 0, .slice none 0 0]); clear HD; generalize World.setRow _ _ _ = w4 at HD1 ⊢; have HD := HD1; clear HD1; obtain ⟨hz0, fz0, hz1, fz1, hz2, fz2, hz3, fz3, hz4, fz4, hz5, fz5⟩ := bk6 (HD.out.blk (g := gq) (cs := #[.int .i64 16, .int .i64 at_, .int .i64 n, .slice A4 qw.length c4, .slice A5 qb.length c5, .int .i64 wat]) (t := 36) (by simp))))
  refine start_ (n := 10) (S := fun w' => w'.cell? ⟨g, 2, none⟩ = some (.slice A2 l2.length c2) ∧ w'.cell? ⟨gq, 1, none⟩ = some (.int .i64 at_) ∧ w'.cell? ⟨gq, 3, none⟩ = some (.slice A4 qw.length c4)) (ds := []) (flg 0 10) (by kernel_rfl) rfl rfl ⟨(blk_cell ((HD.out.drew).old HG.out HN0.out HN2.out) 2).trans rfl, (blk_cell ((HD.out.drew).blk (g := gq) (cs := #[.int .i64 16, .int .i64 at_, .int .i64 n, .slice A4 qw.length c4, .slice A5 qb.length c5, .int .i64 wat]) (t := 36) (by simp)) 1).trans rfl, (blk_cell ((HD.out.drew).blk (g := gq) (cs := #[.int .i64 16, .int .i64 at_, .int .i64 n, .slice A4 qw.length c4, .slice A5 qb.length c5, .int .i64 wat]) (t := 36) (by simp)) 3).trans rfl⟩ (fun hHeld => ?_)
  have HD1 := aM HD.out.drew
  clear HD
  generalize w4.drew = w5 at HD1 hHeld ⊢
  have HD := HD1
  clear HD1
  refine pk (i := 0) (N := some 94) (flg 1 10) ?_
  refine pk (i := 1) (N := some 95) (flg 2 10) ?_
  refine pk (i := 2) (N := some 96) (flg 3 10) ?_
  refine tk3 (i := 3) (N := some 97) (flg 4 10) hHeld ?_
  refine pk (i := 4) (N := some 98) (flg 5 10) ?_
  refine tk3 (i := 5) (N := some 99) (flg 6 10) hHeld ?_
  refine pk (i := 6) (N := some 100) (flg 7 10) ?_
  refine pk (i := 7) (N := some 101) (flg 8 10) ?_
  refine tk3 (i := 8) (N := some 102) (flg 9 10) hHeld ?_
  refine one_ (i := 9) (N := some 103) (flg 10 10) rfl rfl (by kernel_rfl) (by decide) (fun K hK => ?_)
  refine copy_ (enc := (Value.int .i64)) (h1 := fun _ => rfl) 0 (A := A2) (c := c2) (As := A4) (cs := c4) (xs := l2) (ys := qw) at_.toNat (by rfl) rfl rfl Try.underlying23 HS.out (by show Value.slice AD ND CD = _; rw [HAD.out, HND.out, HCD.out]) rfl HD.out.rows.2.2.1 (Kd.C_below HC4.out HD.out.2.2.2.1) HO.out ?_
  intro w6 hR hg
  have HD1 := aM (HD.out.put2 hR hg (by intro x hx; simp only [List.nil_append, List.cons_append, List.mem_cons, List.not_mem_nil, or_false] at hx; rcases hx with rfl | rfl | rfl <;> simp))
  clear HD hR hg
  have HD := HD1
  clear HD1
  refine hK.out _ _ ⟨(blk_cell ((HD.out).old HG.out HN0.out HN2.out) 2).trans rfl, (blk_cell ((HD.out).blk (g := gq) (cs := #[.int .i64 16, .int .i64 at_, .int .i64 n, .slice A4 qw.length c4, .slice A5 qb.length c5, .int .i64 wat]) (t := 36) (by simp)) 1).trans rfl, (blk_cell ((HD.out).blk (g := gq) (cs := #[.int .i64 16, .int .i64 at_, .int .i64 n, .slice A4 qw.length c4, .slice A5 qb.length c5, .int .i64 wat]) (t := 36) (by simp)) 3).trans rfl⟩ (fun hHeld => ?_)
  clear hK K
  refine norm_ (a' := ?_) ?_ ?_
  rotate_left
  · show Act.put _ (some 103) _ = _
    simp only [Act.put, List.setIfInBounds_toArray, List.set_cons_zero, List.set_cons_succ, i64_w, i32_w]
    rfl
  refine done_ (by kernel_rfl) ?_
  clear hz0 fz0 hz1 fz1 hz2 fz2 hz3 fz3 hz4 fz4 hz5 fz5
  obtain ⟨hz0, fz0, hz1, fz1, hz2, fz2, hz3, fz3, hz4, fz4, hz5, fz5⟩ := bk6 (HD.out.blk (g := gq) (cs := #[.int .i64 16, .int .i64 at_, .int .i64 n, .slice A4 qw.length c4, .slice A5 qb.length c5, .int .i64 wat]) (t := 36) (by simp)); obtain ⟨hx0, fx0, hx1, fx1, hx2, fx2, hx3, fx3, hx4, fx4, hx5, fx5⟩ := bk6 (HD.out.blk (g := ga) (cs := #[.int .i64 16, .int .i64 0, .int .i64 0, .int .i64 0, .slice none 0 0, .slice none 0 0]) (t := 32) (by simp))
  go_wp2_with (first | ((with_reducible refine gate_store (t := 3) (p := 106) rfl ?_); refine store_event (t := 3) (p := 106) (v := ?vo_106) (w1 := World.setCell w6 ⟨ga, 2, none⟩ (.int .i64 at_)) ?hg ?ho ?hn ?hr ?_; (case ho => rfl); (case hg => rfl); (case hn => rfl); (case hr => first | (go_simp; done) | (go_simp; rfl)); intro w8 hw8; have HD1 := aM (show DX w0 w w8 _ _ _ _ _ _ _ _ _ from by rw [hw8]; exact HD.out.cell [] [(gr, #[.int .i64 0, .int .i64 0, .int .i64 0, .int .i64 0, .slice none 0 0, .slice none 0 0], 32), (gq, #[.int .i64 16, .int .i64 at_, .int .i64 n, .slice A4 qw.length c4, .slice A5 qb.length c5, .int .i64 wat], 36)] (cs := #[.int .i64 16, .int .i64 0, .int .i64 0, .int .i64 0, .slice none 0 0, .slice none 0 0]) (cs' := #[.int .i64 16, .int .i64 0, .int .i64 at_, .int .i64 0, .slice none 0 0, .slice none 0 0]) 2 (.int .i64 at_)); clear hw8 HD; have HD := HD1; clear HD1; clear hz0 fz0 hz1 fz1 hz2 fz2 hz3 fz3 hz4 fz4 hz5 fz5 hx0 fx0 hx1 fx1 hx2 fx2 hx3 fx3 hx4 fx4 hx5 fx5; obtain ⟨hz0, fz0, hz1, fz1, hz2, fz2, hz3, fz3, hz4, fz4, hz5, fz5⟩ := bk6 (HD.out.blk (g := gq) (cs := #[.int .i64 16, .int .i64 at_, .int .i64 n, .slice A4 qw.length c4, .slice A5 qb.length c5, .int .i64 wat]) (t := 36) (by simp)); obtain ⟨hx0, fx0, hx1, fx1, hx2, fx2, hx3, fx3, hx4, fx4, hx5, fx5⟩ := bk6 (HD.out.blk (g := ga) (cs := #[.int .i64 16, .int .i64 0, .int .i64 at_, .int .i64 0, .slice none 0 0, .slice none 0 0]) (t := 32) (by simp))) | ((with_reducible refine gate_dst (N := 185) rfl ?_); refine wpList_load_row rfl 36 (.tmp 3) rfl gq rfl 36 #[.int .i64 16, .int .i64 at_, .int .i64 n, .slice A4 qw.length c4, .slice A5 qb.length c5, .int .i64 wat] (0, 0) _ (HD.out.blk (by simp)) hu36 rfl (by kernel_rfl) ?_) | ((with_reducible refine gate_callee (f := 45) rfl ?_); refine gL (some 186) rfl rfl Try.func45 (by kernel_rfl) rfl #[.agg #[.int .i64 16, .int .i64 at_, .int .i64 n, .slice A4 qw.length c4, .slice A5 qb.length c5, .int .i64 wat]] rfl ?_; refine (impl_written.calls 16 at_ n A4 c4 qw A5 c5 qb wat m _ (Kd.C_below HC4.out HD.out.2.2.2.1) Hc4.out (Kd.C_below HC5.out HD.out.2.2.2.1) Hc5.out hm.out).mono ?_; rintro e w9 ⟨rfl, hb_⟩; refine ⟨_, rfl, ?_⟩; have HD1 := aM (HD.out.below hb_); clear HD hb_; have HD := HD1; clear HD1; clear hz0 fz0 hz1 fz1 hz2 fz2 hz3 fz3 hz4 fz4 hz5 fz5 hx0 fx0 hx1 fx1 hx2 fx2 hx3 fx3 hx4 fx4 hx5 fx5; obtain ⟨hz0, fz0, hz1, fz1, hz2, fz2, hz3, fz3, hz4, fz4, hz5, fz5⟩ := bk6 (HD.out.blk (g := gq) (cs := #[.int .i64 16, .int .i64 at_, .int .i64 n, .slice A4 qw.length c4, .slice A5 qb.length c5, .int .i64 wat]) (t := 36) (by simp)); obtain ⟨hx0, fx0, hx1, fx1, hx2, fx2, hx3, fx3, hx4, fx4, hx5, fx5⟩ := bk6 (HD.out.blk (g := ga) (cs := #[.int .i64 16, .int .i64 0, .int .i64 at_, .int .i64 0, .slice none 0 0, .slice none 0 0]) (t := 32) (by simp))) | ((with_reducible refine gate_store (t := 3) (p := 187) rfl ?_); refine store_event (t := 3) (p := 187) (v := ?vo_187) (w1 := World.setCell w9 ⟨ga, 3, none⟩ (.int .i64 m)) ?hg ?ho ?hn ?hr ?_; (case ho => rfl); (case hg => rfl); (case hn => rfl); (case hr => first | (go_simp; done) | (go_simp; rfl)); intro w8 hw8; have HD1 := aM (show DX w0 w w8 _ _ _ _ _ _ _ _ _ from by rw [hw8]; exact HD.out.cell [] [(gr, #[.int .i64 0, .int .i64 0, .int .i64 0, .int .i64 0, .slice none 0 0, .slice none 0 0], 32), (gq, #[.int .i64 16, .int .i64 at_, .int .i64 n, .slice A4 qw.length c4, .slice A5 qb.length c5, .int .i64 wat], 36)] (cs := #[.int .i64 16, .int .i64 0, .int .i64 at_, .int .i64 0, .slice none 0 0, .slice none 0 0]) (cs' := #[.int .i64 16, .int .i64 0, .int .i64 at_, .int .i64 m, .slice none 0 0, .slice none 0 0]) 3 (.int .i64 m)); clear hw8 HD; have HD := HD1; clear HD1; clear hz0 fz0 hz1 fz1 hz2 fz2 hz3 fz3 hz4 fz4 hz5 fz5 hx0 fx0 hx1 fx1 hx2 fx2 hx3 fx3 hx4 fx4 hx5 fx5; obtain ⟨hz0, fz0, hz1, fz1, hz2, fz2, hz3, fz3, hz4, fz4, hz5, fz5⟩ := bk6 (HD.out.blk (g := gq) (cs := #[.int .i64 16, .int .i64 at_, .int .i64 n, .slice A4 qw.length c4, .slice A5 qb.length c5, .int .i64 wat]) (t := 36) (by simp)); obtain ⟨hx0, fx0, hx1, fx1, hx2, fx2, hx3, fx3, hx4, fx4, hx5, fx5⟩ := bk6 (HD.out.blk (g := ga) (cs := #[.int .i64 16, .int .i64 0, .int .i64 at_, .int .i64 m, .slice none 0 0, .slice none 0 0]) (t := 32) (by simp))) | ((with_reducible refine gate_dst (N := 188) rfl ?_); refine wpList_load_row rfl 32 (.tmp 5) rfl ga rfl 32 #[.int .i64 16, .int .i64 0, .int .i64 at_, .int .i64 m, .slice none 0 0, .slice none 0 0] (0, 0) _ (HD.out.blk (by simp)) hu32 rfl (by kernel_rfl) ?_) | ((with_reducible refine gate_store (t := 32) (p := 4) rfl ?_); refine wpList_store_row rfl 32 (.tmp 4) (.tmp 188) rfl gr #[.int .i64 16, .int .i64 0, .int .i64 at_, .int .i64 m, .slice none 0 0, .slice none 0 0] rfl rfl 32 #[.int .i64 0, .int .i64 0, .int .i64 0, .int .i64 0, .slice none 0 0, .slice none 0 0] (HD.out.blk (cs := #[.int .i64 0, .int .i64 0, .int .i64 0, .int .i64 0, .slice none 0 0, .slice none 0 0]) (t := 32) (by simp)) (by kernel_rfl) rfl (by simp [Value.oneCell']) ?_; have HD1 := aM (HD.out.row [(ga, #[.int .i64 16, .int .i64 0, .int .i64 at_, .int .i64 m, .slice none 0 0, .slice none 0 0], 32)] [(gq, #[.int .i64 16, .int .i64 at_, .int .i64 n, .slice A4 qw.length c4, .slice A5 qb.length c5, .int .i64 wat], 36)] #[.int .i64 16, .int .i64 0, .int .i64 at_, .int .i64 m, .slice none 0 0, .slice none 0 0]); clear HD; have HD := HD1; clear HD1))
  refine bodyPost_ret (results_cell_row rfl _ _ gr 32 #[.int .i64 16, .int .i64 0, .int .i64 at_, .int .i64 m, .slice none 0 0, .slice none 0 0] (0, 0) _ rfl (HD.out.blk (by simp)) hu32 rfl (by kernel_rfl)) rfl ?_
  exact ⟨_, _, rfl, HD.out.rows, Kd.R_nil _ _ _ _ _, Kd.R_nil _ _ _ _ _, HD.out.2.2.2.1, HD.out.2.2.2.2⟩
set_option maxHeartbeats 4000000 in
set_option maxRecDepth 100000 in
theorem does_22 (g : Nat) (A0 A1 A2 A3 : Option Addr) (c0 c1 c2 c3 : Nat) (l0 l1 : List Bool) (l2 l3 : List Int) (at_ n wat : Int) (A4 A5 : Option Addr) (c4 c5 : Nat) (qw : List Int) (qb : List Bool) (w0 w : World)
    (hb : w.heap[g]? = some (.cells #[.slice A0 l0.length c0, .slice A1 l1.length c1, .slice A2 l2.length c2, .slice A3 l3.length c3] 30 (0, 0))) (hD : DX w0 w w [] (.slice A0 l0.length c0) (.slice A1 l1.length c1) (.slice A2 l2.length c2) (.slice A3 l3.length c3) l0 l1 l2 l3) (hC4 : Kd.C (Kd.int .i64) w0 A4 qw.length qw) (hc4 : qw.length ≤ c4) (hC5 : Kd.C Kd.bool w0 A5 qb.length qb) (hc5 : qb.length ≤ c5)
    (h0 : 0 ≤ at_) (h2 : at_ < (l2.length : Int)) (hq2 : qw.length = 2) (hb5 : slices_Clone_bool_bool.f qb = some qb) (hw5 : slices_Clone_int_int.f qw = some qw) :
    Calls Try.prog 46 #[.pointer (some ⟨g, 0, none⟩), .agg #[.int .i64 22, .int .i64 at_, .int .i64 n, .slice A4 qw.length c4, .slice A5 qb.length c5, .int .i64 wat]] w (DoesPost w0 w (.slice A0 l0.length c0) (.slice A1 l1.length c1) (.slice A2 l2.length c2) (.slice A3 l3.length c3) l0 l1 (l2.set at_.toNat (Go.bits .or .i64 (Go.bits .and .i64 (rd l2 at_) (rd qw 0)) (Go.bits .andNot .i64 (rd qw 1) (rd qw 0)))) l3 22 at_ 0 qw qb) := by
  obtain ⟨ad4, e4, _⟩ := Kd.at_int hC4 0 (by omega) (by omega)
  subst e4
  obtain ⟨g2, cap, he, hg2, _⟩ := Kd.R_form hD.rows.2.2.1 (by omega)
  simp only [Value.slice.injEq] at he
  obtain ⟨rfl, _, rfl⟩ := he
  have HL := aM (⟨h0, h2⟩ : 0 ≤ at_ ∧ at_ < (l2.length : Int))
  have HQ := aM hq2
  have p0 := eq_true h0
  have p1 := eq_true h2
  have p2 : (0 < qw.length) = True := eq_true (by omega)
  have p4 : (1 < qw.length) = True := eq_true (by omega)
  have p3 : ((1 : Int) < (qw.length : Int)) = True := eq_true (by omega)
  clear h0 h2 hq2
  replace hb5 := aM hb5
  replace hw5 := aM hw5
  have hu30 := Try.underlying30
  have hu36 := Try.underlying36
  have hu32 := Try.underlying32
  have HG := aM hb
  have HN0 := aM (hD.rows.ne0 hb (by decide))
  have HN2 := aM (hD.rows.ne2 hb (by decide))
  have HD := aM hD
  have HC4 := aM hC4
  have HC5 := aM hC5
  have Hc4 := aM hc4
  have Hc5 := aM hc5
  clear hb hD hC4 hC5 hc4 hc5
  go_enter Try.func46, Try.ntmps46
  go_wp2_with (first | ((with_reducible refine gate_dst (N := 3) rfl ?_); refine box_event ?hg (N := 3) ?hd (cs := #[.int .i64 22, .int .i64 at_, .int .i64 n, .slice (some ad4) qw.length c4, .slice A5 qb.length c5, .int .i64 wat]) (t := 36) ?hr ?_; (case hd => rfl); (case hg => rfl); (case hr => first | (go_simp; done) | (go_simp; rfl)); intro gq hg _ hbox hb_; have HD1 := aM (HD.out.box hg hbox hb_); clear HD hg hbox hb_; have HD := HD1; clear HD1; obtain ⟨hy0, gy0, hy1, gy1, hy2, gy2, hy3, gy3, hy4, gy4, hy5, gy5⟩ := bk6 (HD.out.blk (g := gq) (cs := #[.int .i64 22, .int .i64 at_, .int .i64 n, .slice (some ad4) qw.length c4, .slice A5 qb.length c5, .int .i64 wat]) (t := 36) (by simp))) | ((with_reducible refine gate_dst (N := 4) rfl ?_); refine box_event ?hg (N := 4) ?hd (cs := #[.int .i64 0, .int .i64 0, .int .i64 0, .int .i64 0, .slice none 0 0, .slice none 0 0]) (t := 32) ?hr ?_; (case hd => rfl); (case hg => rfl); (case hr => first | (go_simp; done) | (go_simp; rfl)); intro gr hg _ hbox hb_; have HD1 := aM (HD.out.box hg hbox hb_); clear HD hg hbox hb_; have HD := HD1; clear HD1; clear hy0 gy0 hy1 gy1 hy2 gy2 hy3 gy3 hy4 gy4 hy5 gy5; obtain ⟨hy0, gy0, hy1, gy1, hy2, gy2, hy3, gy3, hy4, gy4, hy5, gy5⟩ := bk6 (HD.out.blk (g := gq) (cs := #[.int .i64 22, .int .i64 at_, .int .i64 n, .slice (some ad4) qw.length c4, .slice A5 qb.length c5, .int .i64 wat]) (t := 36) (by simp))) | ((with_reducible refine gate_dst (N := 5) rfl ?_); refine box_event ?hg (N := 5) ?hd (cs := #[.int .i64 0, .int .i64 0, .int .i64 0, .int .i64 0, .slice none 0 0, .slice none 0 0]) (t := 32) ?hr ?_; (case hd => rfl); (case hg => rfl); (case hr => first | (go_simp; done) | (go_simp; rfl)); intro ga hg _ hbox hb_; have HD1 := aM (HD.out.box hg hbox hb_); clear HD hg hbox hb_; have HD := HD1; clear HD1; clear hy0 gy0 hy1 gy1 hy2 gy2 hy3 gy3 hy4 gy4 hy5 gy5) | ((with_reducible refine gate_store (t := 32) (p := 5) rfl ?_); refine wpList_store_row rfl 32 (.tmp 5) (.tmp 8) rfl ga #[.int .i64 22, .int .i64 0, .int .i64 0, .int .i64 0, .slice none 0 0, .slice none 0 0] rfl rfl 32 #[.int .i64 0, .int .i64 0, .int .i64 0, .int .i64 0, .slice none 0 0, .slice none 0 0] (HD.out.blk (cs := #[.int .i64 0, .int .i64 0, .int .i64 0, .int .i64 0, .slice none 0 0, .slice none 0 0]) (t := 32) (by simp)) (by kernel_rfl) rfl (by simp [Value.oneCell']) ?_; have HD1 := aM (HD.out.row [] [(gr, #[.int .i64 0, .int .i64 0, .int .i64 0, .int .i64 0, .slice none 0 0, .slice none 0 0], 32), (gq, #[.int .i64 22, .int .i64 at_, .int .i64 n, .slice (some ad4) qw.length c4, .slice A5 qb.length c5, .int .i64 wat], 36)] #[.int .i64 22, .int .i64 0, .int .i64 0, .int .i64 0, .slice none 0 0, .slice none 0 0]); clear HD; generalize World.setRow _ _ _ = w4 at HD1 ⊢; have HD := HD1; clear HD1; obtain ⟨hz0, fz0, hz1, fz1, hz2, fz2, hz3, fz3, hz4, fz4, hz5, fz5⟩ := bk6 (HD.out.blk (g := gq) (cs := #[.int .i64 22, .int .i64 at_, .int .i64 n, .slice (some ad4) qw.length c4, .slice A5 qb.length c5, .int .i64 wat]) (t := 36) (by simp))))
  refine start_ (n := 31) (S := fun w' => w'.cell? ⟨g, 2, none⟩ = some (.slice (some ⟨g2, 0, none⟩) l2.length c2) ∧ w'.cell? ⟨gq, 1, none⟩ = some (.int .i64 at_) ∧ w'.cell? ⟨gq, 3, none⟩ = some (.slice (some ad4) qw.length c4) ∧ w'.cell? ⟨g2, at_.toNat, none⟩ = some (.int .i64 (rd l2 at_)) ∧ w'.cell? ad4 = some (.int .i64 (rd qw 0)) ∧ w'.cell? ⟨ad4.block, ad4.off + 1, none⟩ = some (.int .i64 (rd qw 1))) (ds := [30]) (flg 0 31) (by kernel_rfl) rfl rfl ⟨(blk_cell ((HD.out.drew).old HG.out HN0.out HN2.out) 2).trans rfl, (blk_cell ((HD.out.drew).blk (g := gq) (cs := #[.int .i64 22, .int .i64 at_, .int .i64 n, .slice (some ad4) qw.length c4, .slice A5 qb.length c5, .int .i64 wat]) (t := 36) (by simp)) 1).trans rfl, (blk_cell ((HD.out.drew).blk (g := gq) (cs := #[.int .i64 22, .int .i64 at_, .int .i64 n, .slice (some ad4) qw.length c4, .slice A5 qb.length c5, .int .i64 wat]) (t := 36) (by simp)) 3).trans rfl, (Kd.R_cell (enc := (Value.int .i64)) (h1 := fun _ => rfl) (0 : Int) ((HD.out.drew).rows.2.2.1) at_ HL.out.1 HL.out.2).1, (readq0 HC4.out ((HD.out.drew).2.2.2.1) (by have := HQ.out; omega)), (readq1 HC4.out ((HD.out.drew).2.2.2.1) (by have := HQ.out; omega))⟩ (fun hHeld => ?_)
  have HD1 := aM HD.out.drew
  clear HD
  generalize w4.drew = w5 at HD1 hHeld ⊢
  have HD := HD1
  clear HD1
  refine pk (i := 0) (N := some 109) (flg 1 31) ?_
  refine pk (i := 1) (N := some 110) (flg 2 31) ?_
  refine pk (i := 2) (N := some 111) (flg 3 31) ?_
  refine tk6 (i := 3) (N := some 112) (flg 4 31) hHeld ?_
  refine pk (i := 4) (N := some 113) (flg 5 31) ?_
  refine tk6 (i := 5) (N := some 114) (flg 6 31) hHeld ?_
  refine pk (i := 6) (N := some 115) (flg 7 31) ?_
  refine pk (i := 7) (N := some 116) (flg 8 31) ?_
  refine pk (i := 8) (N := some 117) (flg 9 31) ?_
  refine tk6 (i := 9) (N := some 118) (flg 10 31) hHeld ?_
  refine pk (i := 10) (N := some 119) (flg 11 31) ?_
  refine tk6 (i := 11) (N := some 120) (flg 12 31) hHeld ?_
  refine pk (i := 12) (N := some 121) (flg 13 31) ?_
  refine tk6 (i := 13) (N := some 122) (flg 14 31) hHeld ?_
  refine pk (i := 14) (N := some 123) (flg 15 31) ?_
  refine tk6 (i := 15) (N := some 124) (flg 16 31) hHeld ?_
  refine pk (i := 16) (N := some 125) (flg 17 31) ?_
  refine tk6 (i := 17) (N := some 126) (flg 18 31) hHeld ?_
  refine pk (i := 18) (N := some 127) (flg 19 31) ?_
  refine pk (i := 19) (N := some 128) (flg 20 31) ?_
  refine tk6 (i := 20) (N := some 129) (flg 21 31) hHeld ?_
  refine pk (i := 21) (N := some 130) (flg 22 31) ?_
  refine tk6 (i := 22) (N := some 131) (flg 23 31) hHeld ?_
  refine pk (i := 23) (N := some 132) (flg 24 31) ?_
  refine tk6 (i := 24) (N := some 133) (flg 25 31) hHeld ?_
  refine pk (i := 25) (N := some 134) (flg 26 31) ?_
  refine tk6 (i := 26) (N := some 135) (flg 27 31) hHeld ?_
  refine pk (i := 27) (N := some 136) (flg 28 31) ?_
  refine pk (i := 28) (N := some 137) (flg 29 31) ?_
  refine pk (i := 29) (N := some 138) (flg 30 31) ?_
  refine last_ (i := 30) (N := none) (flg 31 31) rfl rfl (by kernel_rfl) (by decide) (fun K hK => ?_)
  have hp := Kd.R_put (enc := (Value.int .i64)) (h1 := fun _ => rfl) (W := w5) HD.out.rows.2.2.1 at_ (Go.bits .or .i64 (Go.bits .and .i64 (rd l2 at_) (rd qw 0)) (Go.bits .andNot .i64 (rd qw 1) (rd qw 0)))
  obtain ⟨hc2, hf2⟩ := Kd.R_cell (enc := (Value.int .i64)) (h1 := fun _ => rfl) (0 : Int) HD.out.rows.2.2.1 at_ HL.out.1 HL.out.2
  refine skip_ (w1 := w5.setCell ⟨g2, at_.toNat, none⟩ (.int .i64 (Go.bits .or .i64 (Go.bits .and .i64 (rd l2 at_) (rd qw 0)) (Go.bits .andNot .i64 (rd qw 1) (rd qw 0))))) (by rfl) rfl ?_ ?_
  · go_simp
  have HD1 := aM (HD.out.put2 hp.1 hp.2 (by intro x hx; simp only [List.nil_append, List.cons_append, List.mem_cons, List.not_mem_nil, or_false] at hx; rcases hx with rfl | rfl | rfl <;> simp))
  clear HD hp hc2 hf2
  generalize World.setCell _ _ _ = w6 at HD1 ⊢
  have HD := HD1
  clear HD1
  refine hK.out _ _ ?_
  clear hK K
  refine done_ (by kernel_rfl) ?_
  clear hz0 fz0 hz1 fz1 hz2 fz2 hz3 fz3 hz4 fz4 hz5 fz5
  obtain ⟨hz0, fz0, hz1, fz1, hz2, fz2, hz3, fz3, hz4, fz4, hz5, fz5⟩ := bk6 (HD.out.blk (g := gq) (cs := #[.int .i64 22, .int .i64 at_, .int .i64 n, .slice (some ad4) qw.length c4, .slice A5 qb.length c5, .int .i64 wat]) (t := 36) (by simp)); obtain ⟨hx0, fx0, hx1, fx1, hx2, fx2, hx3, fx3, hx4, fx4, hx5, fx5⟩ := bk6 (HD.out.blk (g := ga) (cs := #[.int .i64 22, .int .i64 0, .int .i64 0, .int .i64 0, .slice none 0 0, .slice none 0 0]) (t := 32) (by simp))
  go_upto_region 29 with ((with_reducible refine gate_store (t := 3) (p := 141) rfl ?_); refine store_event (t := 3) (p := 141) (v := ?vo_141) (w1 := World.setCell w6 ⟨ga, 2, none⟩ (.int .i64 at_)) ?hg ?ho ?hn ?hr ?_; (case ho => rfl); (case hg => rfl); (case hn => rfl); (case hr => first | (go_simp; done) | (go_simp; rfl)); intro w8 hw8; have HD1 := aM (show DX w0 w w8 _ _ _ _ _ _ _ _ _ from by rw [hw8]; exact HD.out.cell [] [(gr, #[.int .i64 0, .int .i64 0, .int .i64 0, .int .i64 0, .slice none 0 0, .slice none 0 0], 32), (gq, #[.int .i64 22, .int .i64 at_, .int .i64 n, .slice (some ad4) qw.length c4, .slice A5 qb.length c5, .int .i64 wat], 36)] (cs := #[.int .i64 22, .int .i64 0, .int .i64 0, .int .i64 0, .slice none 0 0, .slice none 0 0]) (cs' := #[.int .i64 22, .int .i64 0, .int .i64 at_, .int .i64 0, .slice none 0 0, .slice none 0 0]) 2 (.int .i64 at_)); clear hw8 HD; have HD := HD1; clear HD1; clear hz0 fz0 hz1 fz1 hz2 fz2 hz3 fz3 hz4 fz4 hz5 fz5 hx0 fx0 hx1 fx1 hx2 fx2 hx3 fx3 hx4 fx4 hx5 fx5; obtain ⟨hz0, fz0, hz1, fz1, hz2, fz2, hz3, fz3, hz4, fz4, hz5, fz5⟩ := bk6 (HD.out.blk (g := gq) (cs := #[.int .i64 22, .int .i64 at_, .int .i64 n, .slice (some ad4) qw.length c4, .slice A5 qb.length c5, .int .i64 wat]) (t := 36) (by simp)); obtain ⟨hx0, fx0, hx1, fx1, hx2, fx2, hx3, fx3, hx4, fx4, hx5, fx5⟩ := bk6 (HD.out.blk (g := ga) (cs := #[.int .i64 22, .int .i64 0, .int .i64 at_, .int .i64 0, .slice none 0 0, .slice none 0 0]) (t := 32) (by simp)))
  refine start_ (n := 10) (S := fun w' => w'.cell? ⟨gq, 4, none⟩ = some (.slice A5 qb.length c5) ∧ w'.cell? ⟨gq, 3, none⟩ = some (.slice (some ad4) qw.length c4) ∧ w'.cell? ⟨gq, 1, none⟩ = some (.int .i64 at_)) (ds := []) (flg 0 10) (by kernel_rfl) rfl rfl ⟨(blk_cell ((HD.out.drew).blk (g := gq) (cs := #[.int .i64 22, .int .i64 at_, .int .i64 n, .slice (some ad4) qw.length c4, .slice A5 qb.length c5, .int .i64 wat]) (t := 36) (by simp)) 4).trans rfl, (blk_cell ((HD.out.drew).blk (g := gq) (cs := #[.int .i64 22, .int .i64 at_, .int .i64 n, .slice (some ad4) qw.length c4, .slice A5 qb.length c5, .int .i64 wat]) (t := 36) (by simp)) 3).trans rfl, (blk_cell ((HD.out.drew).blk (g := gq) (cs := #[.int .i64 22, .int .i64 at_, .int .i64 n, .slice (some ad4) qw.length c4, .slice A5 qb.length c5, .int .i64 wat]) (t := 36) (by simp)) 1).trans rfl⟩ (fun hHeld => ?_)
  have HD1 := aM HD.out.drew
  clear HD hz0 fz0 hz1 fz1 hz2 fz2 hz3 fz3 hz4 fz4 hz5 fz5 hx0 fx0 hx1 fx1 hx2 fx2 hx3 fx3 hx4 fx4 hx5 fx5
  generalize w8.drew = w9 at HD1 hHeld ⊢
  have HD := HD1
  clear HD1
  refine pk (i := 0) (N := some 174) (flg 1 10) ?_
  refine tk3 (i := 1) (N := some 175) (flg 2 10) hHeld ?_
  refine pk (i := 3) (N := some 177) #[true, true, false, true, false, false, false, false, false, false] ?_
  refine tk3 (i := 4) (N := some 178) #[true, true, false, true, true, false, false, false, false, false] hHeld ?_
  refine one_ (i := 2) (N := some 176) (flg 5 10) rfl rfl (by kernel_rfl) (by decide) (fun K hK => ?_)
  refine goes_ Try.func58 (by kernel_rfl) rfl #[.slice A5 qb.length c5] (by rfl) rfl rfl (by (try simp only [List.map_toArray, List.map_cons, List.map_nil]); first | done | rfl) ?_
  refine (slices_Clone_bool_bool.calls A5 c5 qb qb _ (Kd.C_below HC5.out HD.out.2.2.2.1) Hc5.out hb5.out).mono ?_
  rintro e w10 ⟨v10, rfl, ho, hb_⟩
  refine ⟨_, rfl, ?_⟩
  have HV := aM (Kd.R_lower ho HD.out.2.2.2.2.1)
  have HD1 := aM (HD.out.below hb_)
  clear ho hb_ HD
  have HD := HD1
  clear HD1
  obtain ⟨Av, cv, ev⟩ := Kd.R_slice HV.out
  subst ev
  refine hK.out _ _ ⟨(blk_cell ((HD.out).blk (g := gq) (cs := #[.int .i64 22, .int .i64 at_, .int .i64 n, .slice (some ad4) qw.length c4, .slice A5 qb.length c5, .int .i64 wat]) (t := 36) (by simp)) 4).trans rfl, (blk_cell ((HD.out).blk (g := gq) (cs := #[.int .i64 22, .int .i64 at_, .int .i64 n, .slice (some ad4) qw.length c4, .slice A5 qb.length c5, .int .i64 wat]) (t := 36) (by simp)) 3).trans rfl, (blk_cell ((HD.out).blk (g := gq) (cs := #[.int .i64 22, .int .i64 at_, .int .i64 n, .slice (some ad4) qw.length c4, .slice A5 qb.length c5, .int .i64 wat]) (t := 36) (by simp)) 1).trans rfl⟩ (fun hHeld => ?_)
  clear hK K
  refine norm_ (a' := ?_) ?_ ?_
  rotate_left
  · show Act.put _ (some 176) _ = _
    simp only [Act.put, List.setIfInBounds_toArray, List.set_cons_zero, List.set_cons_succ, i64_w, i32_w]
    rfl
  refine pk (i := 6) (N := some 180) #[true, true, true, true, true, false, true, false, false, false] ?_
  refine one_ (i := 5) (N := some 179) (flg 7 10) rfl rfl (by kernel_rfl) (by decide) (fun K hK => ?_)
  refine goes_ Try.func59 (by kernel_rfl) rfl #[.slice (some ad4) qw.length c4] (by rfl) rfl rfl (by (try simp only [List.map_toArray, List.map_cons, List.map_nil]); first | done | rfl) ?_
  refine (slices_Clone_int_int.calls (some ad4) c4 qw qw _ (Kd.C_below HC4.out HD.out.2.2.2.1) Hc4.out hw5.out).mono ?_
  rintro e w11 ⟨v11, rfl, ho, hb_⟩
  refine ⟨_, rfl, ?_⟩
  have HV2 := aM (Kd.R_lower ho HD.out.2.2.2.2.1)
  have HD1 := aM (HD.out.below hb_)
  have HV1 := aM (Kd.R_below HV.out hb_)
  clear HV
  have HV := HV1
  clear HV1
  clear ho hb_ HD
  have HD := HD1
  clear HD1
  obtain ⟨Au, cu, eu⟩ := Kd.R_slice HV2.out
  subst eu
  refine hK.out _ _ ⟨(blk_cell ((HD.out).blk (g := gq) (cs := #[.int .i64 22, .int .i64 at_, .int .i64 n, .slice (some ad4) qw.length c4, .slice A5 qb.length c5, .int .i64 wat]) (t := 36) (by simp)) 4).trans rfl, (blk_cell ((HD.out).blk (g := gq) (cs := #[.int .i64 22, .int .i64 at_, .int .i64 n, .slice (some ad4) qw.length c4, .slice A5 qb.length c5, .int .i64 wat]) (t := 36) (by simp)) 3).trans rfl, (blk_cell ((HD.out).blk (g := gq) (cs := #[.int .i64 22, .int .i64 at_, .int .i64 n, .slice (some ad4) qw.length c4, .slice A5 qb.length c5, .int .i64 wat]) (t := 36) (by simp)) 1).trans rfl⟩ (fun hHeld => ?_)
  clear hK K
  refine norm_ (a' := ?_) ?_ ?_
  rotate_left
  · show Act.put _ (some 179) _ = _
    simp only [Act.put, List.setIfInBounds_toArray, List.set_cons_zero, List.set_cons_succ, i64_w, i32_w]
    rfl
  refine one_ (i := 7) (N := none) (flg 8 10) rfl rfl (by kernel_rfl) (by decide) (fun K hK => ?_)
  obtain ⟨hx0, fx0, hx1, fx1, hx2, fx2, hx3, fx3, hx4, fx4, hx5, fx5⟩ := bk6 (HD.out.blk (g := ga) (cs := #[.int .i64 22, .int .i64 0, .int .i64 at_, .int .i64 0, .slice none 0 0, .slice none 0 0]) (t := 32) (by simp))
  refine skip_ (w1 := ?_) (by rfl) rfl ?_ ?_
  rotate_left
  · go_simp
    rfl
  have HV1 := aM (R_cell_ HV.out (HD.out.blk (g := ga) (cs := #[.int .i64 22, .int .i64 0, .int .i64 at_, .int .i64 0, .slice none 0 0, .slice none 0 0]) (t := 32) (by simp)) (by decide) 5 (.slice Av qb.length cv))
  have HV21 := aM (R_cell_ HV2.out (HD.out.blk (g := ga) (cs := #[.int .i64 22, .int .i64 0, .int .i64 at_, .int .i64 0, .slice none 0 0, .slice none 0 0]) (t := 32) (by simp)) (by decide) 5 (.slice Av qb.length cv))
  have HD1 := aM (HD.out.cell [] [(gr, #[.int .i64 0, .int .i64 0, .int .i64 0, .int .i64 0, .slice none 0 0, .slice none 0 0], 32), (gq, #[.int .i64 22, .int .i64 at_, .int .i64 n, .slice (some ad4) qw.length c4, .slice A5 qb.length c5, .int .i64 wat], 36)] (cs := #[.int .i64 22, .int .i64 0, .int .i64 at_, .int .i64 0, .slice none 0 0, .slice none 0 0]) (cs' := #[.int .i64 22, .int .i64 0, .int .i64 at_, .int .i64 0, .slice none 0 0, .slice Av qb.length cv]) 5 (.slice Av qb.length cv))
  clear HV HV2 HD hx0 fx0 hx1 fx1 hx2 fx2 hx3 fx3 hx4 fx4 hx5 fx5
  generalize World.setCell _ _ _ = w7 at HV1 HV21 HD1 ⊢
  have HV := HV1
  clear HV1
  have HV2 := HV21
  clear HV21
  have HD := HD1
  clear HD1
  refine hK.out _ _ ⟨(blk_cell ((HD.out).blk (g := gq) (cs := #[.int .i64 22, .int .i64 at_, .int .i64 n, .slice (some ad4) qw.length c4, .slice A5 qb.length c5, .int .i64 wat]) (t := 36) (by simp)) 4).trans rfl, (blk_cell ((HD.out).blk (g := gq) (cs := #[.int .i64 22, .int .i64 at_, .int .i64 n, .slice (some ad4) qw.length c4, .slice A5 qb.length c5, .int .i64 wat]) (t := 36) (by simp)) 3).trans rfl, (blk_cell ((HD.out).blk (g := gq) (cs := #[.int .i64 22, .int .i64 at_, .int .i64 n, .slice (some ad4) qw.length c4, .slice A5 qb.length c5, .int .i64 wat]) (t := 36) (by simp)) 1).trans rfl⟩ (fun hHeld => ?_)
  clear hK K
  refine pk (i := 8) (N := some 181) (flg 9 10) ?_
  refine one_ (i := 9) (N := none) (flg 10 10) rfl rfl (by kernel_rfl) (by decide) (fun K hK => ?_)
  obtain ⟨hx0, fx0, hx1, fx1, hx2, fx2, hx3, fx3, hx4, fx4, hx5, fx5⟩ := bk6 (HD.out.blk (g := ga) (cs := #[.int .i64 22, .int .i64 0, .int .i64 at_, .int .i64 0, .slice none 0 0, .slice Av qb.length cv]) (t := 32) (by simp))
  refine skip_ (w1 := ?_) (by rfl) rfl ?_ ?_
  rotate_left
  · go_simp
    rfl
  have HV1 := aM (R_cell_ HV.out (HD.out.blk (g := ga) (cs := #[.int .i64 22, .int .i64 0, .int .i64 at_, .int .i64 0, .slice none 0 0, .slice Av qb.length cv]) (t := 32) (by simp)) (by decide) 4 (.slice Au qw.length cu))
  have HV21 := aM (R_cell_ HV2.out (HD.out.blk (g := ga) (cs := #[.int .i64 22, .int .i64 0, .int .i64 at_, .int .i64 0, .slice none 0 0, .slice Av qb.length cv]) (t := 32) (by simp)) (by decide) 4 (.slice Au qw.length cu))
  have HD1 := aM (HD.out.cell [] [(gr, #[.int .i64 0, .int .i64 0, .int .i64 0, .int .i64 0, .slice none 0 0, .slice none 0 0], 32), (gq, #[.int .i64 22, .int .i64 at_, .int .i64 n, .slice (some ad4) qw.length c4, .slice A5 qb.length c5, .int .i64 wat], 36)] (cs := #[.int .i64 22, .int .i64 0, .int .i64 at_, .int .i64 0, .slice none 0 0, .slice Av qb.length cv]) (cs' := #[.int .i64 22, .int .i64 0, .int .i64 at_, .int .i64 0, .slice Au qw.length cu, .slice Av qb.length cv]) 4 (.slice Au qw.length cu))
  clear HV HV2 HD hx0 fx0 hx1 fx1 hx2 fx2 hx3 fx3 hx4 fx4 hx5 fx5
  generalize World.setCell _ _ _ = w7 at HV1 HV21 HD1 ⊢
  have HV := HV1
  clear HV1
  have HV2 := HV21
  clear HV21
  have HD := HD1
  clear HD1
  refine hK.out _ _ ⟨(blk_cell ((HD.out).blk (g := gq) (cs := #[.int .i64 22, .int .i64 at_, .int .i64 n, .slice (some ad4) qw.length c4, .slice A5 qb.length c5, .int .i64 wat]) (t := 36) (by simp)) 4).trans rfl, (blk_cell ((HD.out).blk (g := gq) (cs := #[.int .i64 22, .int .i64 at_, .int .i64 n, .slice (some ad4) qw.length c4, .slice A5 qb.length c5, .int .i64 wat]) (t := 36) (by simp)) 3).trans rfl, (blk_cell ((HD.out).blk (g := gq) (cs := #[.int .i64 22, .int .i64 at_, .int .i64 n, .slice (some ad4) qw.length c4, .slice A5 qb.length c5, .int .i64 wat]) (t := 36) (by simp)) 1).trans rfl⟩ (fun hHeld => ?_)
  clear hK K
  refine done_ (by kernel_rfl) ?_
  obtain ⟨hz0, fz0, hz1, fz1, hz2, fz2, hz3, fz3, hz4, fz4, hz5, fz5⟩ := bk6 (HD.out.blk (g := gq) (cs := #[.int .i64 22, .int .i64 at_, .int .i64 n, .slice (some ad4) qw.length c4, .slice A5 qb.length c5, .int .i64 wat]) (t := 36) (by simp))
  clear hz0 fz0 hz1 fz1 hz2 fz2 hz3 fz3 hz4 fz4 hz5 fz5
  obtain ⟨hz0, fz0, hz1, fz1, hz2, fz2, hz3, fz3, hz4, fz4, hz5, fz5⟩ := bk6 (HD.out.blk (g := gq) (cs := #[.int .i64 22, .int .i64 at_, .int .i64 n, .slice (some ad4) qw.length c4, .slice A5 qb.length c5, .int .i64 wat]) (t := 36) (by simp))
  go_wp2_with (first | ((with_reducible refine gate_dst (N := 188) rfl ?_); refine wpList_load_row rfl 32 (.tmp 5) rfl ga rfl 32 #[.int .i64 22, .int .i64 0, .int .i64 at_, .int .i64 0, .slice Au qw.length cu, .slice Av qb.length cv] (0, 0) _ (HD.out.blk (by simp)) hu32 rfl (by kernel_rfl) ?_) | ((with_reducible refine gate_store (t := 32) (p := 4) rfl ?_); refine wpList_store_row rfl 32 (.tmp 4) (.tmp 188) rfl gr #[.int .i64 22, .int .i64 0, .int .i64 at_, .int .i64 0, .slice Au qw.length cu, .slice Av qb.length cv] rfl rfl 32 #[.int .i64 0, .int .i64 0, .int .i64 0, .int .i64 0, .slice none 0 0, .slice none 0 0] (HD.out.blk (cs := #[.int .i64 0, .int .i64 0, .int .i64 0, .int .i64 0, .slice none 0 0, .slice none 0 0]) (t := 32) (by simp)) (by kernel_rfl) rfl (by simp [Value.oneCell']) ?_; have HD1 := aM (HD.out.row [(ga, #[.int .i64 22, .int .i64 0, .int .i64 at_, .int .i64 0, .slice Au qw.length cu, .slice Av qb.length cv], 32)] [(gq, #[.int .i64 22, .int .i64 at_, .int .i64 n, .slice (some ad4) qw.length c4, .slice A5 qb.length c5, .int .i64 wat], 36)] #[.int .i64 22, .int .i64 0, .int .i64 at_, .int .i64 0, .slice Au qw.length cu, .slice Av qb.length cv]); (try (have HV1 := aM (R_row HV.out (HD.out.blk (g := gr) (cs := #[.int .i64 0, .int .i64 0, .int .i64 0, .int .i64 0, .slice none 0 0, .slice none 0 0]) (t := 32) (by simp)) (by decide) #[.int .i64 22, .int .i64 0, .int .i64 at_, .int .i64 0, .slice Au qw.length cu, .slice Av qb.length cv]); clear HV; have HV := HV1; clear HV1)); (try (have HV1 := aM (R_row HV2.out (HD.out.blk (g := gr) (cs := #[.int .i64 0, .int .i64 0, .int .i64 0, .int .i64 0, .slice none 0 0, .slice none 0 0]) (t := 32) (by simp)) (by decide) #[.int .i64 22, .int .i64 0, .int .i64 at_, .int .i64 0, .slice Au qw.length cu, .slice Av qb.length cv]); clear HV2; have HV2 := HV1; clear HV1)); clear HD; have HD := HD1; clear HD1))
  refine bodyPost_ret (results_cell_row rfl _ _ gr 32 #[.int .i64 22, .int .i64 0, .int .i64 at_, .int .i64 0, .slice Au qw.length cu, .slice Av qb.length cv] (0, 0) _ rfl (HD.out.blk (by simp)) hu32 rfl (by kernel_rfl)) rfl ?_
  exact ⟨_, _, rfl, HD.out.rows, HV2.out, HV.out, HD.out.2.2.2.1, HD.out.2.2.2.2⟩
set_option maxHeartbeats 4000000 in
set_option maxRecDepth 100000 in
theorem does_23 (g : Nat) (A0 A1 A2 A3 : Option Addr) (c0 c1 c2 c3 : Nat) (l0 l1 : List Bool) (l2 l3 : List Int) (at_ n wat : Int) (A4 A5 : Option Addr) (c4 c5 : Nat) (qw : List Int) (qb : List Bool) (w0 w : World)
    (hb : w.heap[g]? = some (.cells #[.slice A0 l0.length c0, .slice A1 l1.length c1, .slice A2 l2.length c2, .slice A3 l3.length c3] 30 (0, 0))) (hD : DX w0 w w [] (.slice A0 l0.length c0) (.slice A1 l1.length c1) (.slice A2 l2.length c2) (.slice A3 l3.length c3) l0 l1 l2 l3) (hC4 : Kd.C (Kd.int .i64) w0 A4 qw.length qw) (hc4 : qw.length ≤ c4) (hC5 : Kd.C Kd.bool w0 A5 qb.length qb) (hc5 : qb.length ≤ c5)
    (k0 : 0 ≤ wat) (k2 : wat + (qw.length : Int) ≤ (l2.length : Int)) (h0 : 0 ≤ at_) (h1 : 0 ≤ n) (h2 : at_ + n ≤ (l2.length : Int)) (r : List Int) (hcl : slices_Clone_int_int.f (((over l2 wat.toNat qw).take (at_ + n).toNat).drop at_.toNat) = some r) :
    Calls Try.prog 46 #[.pointer (some ⟨g, 0, none⟩), .agg #[.int .i64 23, .int .i64 at_, .int .i64 n, .slice A4 qw.length c4, .slice A5 qb.length c5, .int .i64 wat]] w (DoesPost w0 w (.slice A0 l0.length c0) (.slice A1 l1.length c1) (.slice A2 l2.length c2) (.slice A3 l3.length c3) l0 l1 (over l2 wat.toNat qw) l3 23 0 0 r []) := by
  obtain ⟨X, hX⟩ : ∃ X, over l2 wat.toNat qw = X := ⟨_, rfl⟩
  have hXl : X.length = l2.length := by rw [← hX]; exact over_length _ _ _
  rw [hX] at hcl ⊢
  have HX := aM hX
  clear hX
  have hroom : l2.length ≤ c2 := (Kd.R_reads' hD.rows.2.2.1).2.1
  obtain ⟨i0, hi, hz⟩ := Option.map_eq_some_iff.1 infoDi
  simp only [Prod.mk.injEq] at hz
  have hsz : (Try.prog.info? 3).map (·.size) = some 1 := by rw [hi]; simp [hz.2.1]
  have hcut_ := cut_from (P := Try.prog) 23 3 .i64 Try.underlying23 hi 1 hz.2.1 A2 l2.length c2 wat k0 (by omega)
  obtain ⟨AD, hAD⟩ : ∃ AD, AD = (if c2 = wat.toNat then A2 else A2.map (·.add (wat.toNat * 1))) := ⟨_, rfl⟩
  obtain ⟨ND, hND⟩ : ∃ ND, ND = l2.length - wat.toNat := ⟨_, rfl⟩
  obtain ⟨CD, hCD⟩ : ∃ CD, CD = c2 - wat.toNat := ⟨_, rfl⟩
  rw [← hAD, ← hND, ← hCD] at hcut_
  have HAD := aM hAD
  have HND := aM hND
  have HCD := aM hCD
  have HS := aM hsz
  have HO := aM (show wat.toNat + qw.length ≤ l2.length by omega)
  clear hAD hND hCD hsz hi hz hroom
  clear k0 k2
  have hdC : ∀ {W : World}, Rows4 W w0.heap.size (.slice A0 l0.length c0) (.slice A1 l1.length c1) (.slice A2 l2.length c2) (.slice A3 l3.length c3) l0 l1 X l3 → Kd.C (Kd.int .i64) W A2 X.length X := fun hr => (Kd.R_reads' hr.2.2.1).2.2
  have hroom : l2.length ≤ c2 := (Kd.R_reads' hD.rows.2.2.1).2.1
  have hjlim : l2.length ≤ 9223372036854775807 := (Kd.R_reads' hD.rows.2.2.1).2.2.2.1
  obtain ⟨i0, hi, hz⟩ := Option.map_eq_some_iff.1 infoDi
  simp only [Prod.mk.injEq] at hz
  obtain ⟨j, hj⟩ : ∃ j, at_ + n = j := ⟨_, rfl⟩
  have hjw : IntKind.i64.wrap (at_ + n) = j := by rw [IntKind.wrap_i64]; omega
  have hjw2 : wrap64 (at_ + n) = j := by unfold wrap64; omega
  rw [hj] at h2 hcl
  have h01 : at_ ≤ j := by omega
  have hcut := cut_mid (P := Try.prog) 23 3 .i64 .i64 Try.underlying23 hi 1 hz.2.1 A2 l2.length c2 at_ j h0 h01 h2 hroom
  have hC : ∀ {W : World}, Rows4 W w0.heap.size (.slice A0 l0.length c0) (.slice A1 l1.length c1) (.slice A2 l2.length c2) (.slice A3 l3.length c3) l0 l1 X l3 → Kd.C (Kd.int .i64) W (if c2 = at_.toNat then A2 else A2.map (·.add (at_.toNat * 1))) ((X.take j.toNat).drop at_.toNat).length ((X.take j.toNat).drop at_.toNat) := fun hr => Kd.C_mid (hdC hr) (by omega) (by omega) (by omega)
  have hl : ((X.take j.toNat).drop at_.toNat).length = j.toNat - at_.toNat := by rw [List.length_drop, List.length_take]; omega
  have hRC : ((X.take j.toNat).drop at_.toNat).length ≤ c2 - at_.toNat := by rw [hl]; omega
  rw [← hl] at hcut
  generalize (if c2 = at_.toNat then A2 else A2.map (·.add (at_.toNat * 1))) = AR at hcut hC
  generalize c2 - at_.toNat = cR at hcut hRC
  generalize (X.take j.toNat).drop at_.toNat = R at hcut hC hRC hcl
  have HC : Aside0 (∀ {W : World}, Rows4 W w0.heap.size (.slice A0 l0.length c0) (.slice A1 l1.length c1) (.slice A2 l2.length c2) (.slice A3 l3.length c3) l0 l1 X l3 → Kd.C (Kd.int .i64) W AR R.length R) := ⟨hC⟩
  have HRC := aM hRC
  replace hcl := aM hcl
  clear hdC hroom hjlim hi hz hj h0 h1 h2 h01 hl hC hRC hXl
  have hu30 := Try.underlying30
  have hu36 := Try.underlying36
  have hu32 := Try.underlying32
  have HG := aM hb
  have HN0 := aM (hD.rows.ne0 hb (by decide))
  have HN2 := aM (hD.rows.ne2 hb (by decide))
  have HD := aM hD
  have HC4 := aM hC4
  have HC5 := aM hC5
  have Hc4 := aM hc4
  have Hc5 := aM hc5
  clear hb hD hC4 hC5 hc4 hc5
  go_enter Try.func46, Try.ntmps46
  go_wp2_with (first | ((with_reducible refine gate_dst (N := 3) rfl ?_); refine box_event ?hg (N := 3) ?hd (cs := #[.int .i64 23, .int .i64 at_, .int .i64 n, .slice A4 qw.length c4, .slice A5 qb.length c5, .int .i64 wat]) (t := 36) ?hr ?_; (case hd => rfl); (case hg => rfl); (case hr => first | (go_simp; done) | (go_simp; rfl)); intro gq hg _ hbox hb_; have HD1 := aM (HD.out.box hg hbox hb_); clear HD hg hbox hb_; have HD := HD1; clear HD1; obtain ⟨hy0, gy0, hy1, gy1, hy2, gy2, hy3, gy3, hy4, gy4, hy5, gy5⟩ := bk6 (HD.out.blk (g := gq) (cs := #[.int .i64 23, .int .i64 at_, .int .i64 n, .slice A4 qw.length c4, .slice A5 qb.length c5, .int .i64 wat]) (t := 36) (by simp))) | ((with_reducible refine gate_dst (N := 4) rfl ?_); refine box_event ?hg (N := 4) ?hd (cs := #[.int .i64 0, .int .i64 0, .int .i64 0, .int .i64 0, .slice none 0 0, .slice none 0 0]) (t := 32) ?hr ?_; (case hd => rfl); (case hg => rfl); (case hr => first | (go_simp; done) | (go_simp; rfl)); intro gr hg _ hbox hb_; have HD1 := aM (HD.out.box hg hbox hb_); clear HD hg hbox hb_; have HD := HD1; clear HD1; clear hy0 gy0 hy1 gy1 hy2 gy2 hy3 gy3 hy4 gy4 hy5 gy5; obtain ⟨hy0, gy0, hy1, gy1, hy2, gy2, hy3, gy3, hy4, gy4, hy5, gy5⟩ := bk6 (HD.out.blk (g := gq) (cs := #[.int .i64 23, .int .i64 at_, .int .i64 n, .slice A4 qw.length c4, .slice A5 qb.length c5, .int .i64 wat]) (t := 36) (by simp))) | ((with_reducible refine gate_dst (N := 5) rfl ?_); refine box_event ?hg (N := 5) ?hd (cs := #[.int .i64 0, .int .i64 0, .int .i64 0, .int .i64 0, .slice none 0 0, .slice none 0 0]) (t := 32) ?hr ?_; (case hd => rfl); (case hg => rfl); (case hr => first | (go_simp; done) | (go_simp; rfl)); intro ga hg _ hbox hb_; have HD1 := aM (HD.out.box hg hbox hb_); clear HD hg hbox hb_; have HD := HD1; clear HD1; clear hy0 gy0 hy1 gy1 hy2 gy2 hy3 gy3 hy4 gy4 hy5 gy5) | ((with_reducible refine gate_store (t := 32) (p := 5) rfl ?_); refine wpList_store_row rfl 32 (.tmp 5) (.tmp 8) rfl ga #[.int .i64 23, .int .i64 0, .int .i64 0, .int .i64 0, .slice none 0 0, .slice none 0 0] rfl rfl 32 #[.int .i64 0, .int .i64 0, .int .i64 0, .int .i64 0, .slice none 0 0, .slice none 0 0] (HD.out.blk (cs := #[.int .i64 0, .int .i64 0, .int .i64 0, .int .i64 0, .slice none 0 0, .slice none 0 0]) (t := 32) (by simp)) (by kernel_rfl) rfl (by simp [Value.oneCell']) ?_; have HD1 := aM (HD.out.row [] [(gr, #[.int .i64 0, .int .i64 0, .int .i64 0, .int .i64 0, .slice none 0 0, .slice none 0 0], 32), (gq, #[.int .i64 23, .int .i64 at_, .int .i64 n, .slice A4 qw.length c4, .slice A5 qb.length c5, .int .i64 wat], 36)] #[.int .i64 23, .int .i64 0, .int .i64 0, .int .i64 0, .slice none 0 0, .slice none 0 0]); clear HD; generalize World.setRow _ _ _ = w4 at HD1 ⊢; have HD := HD1; clear HD1; obtain ⟨hz0, fz0, hz1, fz1, hz2, fz2, hz3, fz3, hz4, fz4, hz5, fz5⟩ := bk6 (HD.out.blk (g := gq) (cs := #[.int .i64 23, .int .i64 at_, .int .i64 n, .slice A4 qw.length c4, .slice A5 qb.length c5, .int .i64 wat]) (t := 36) (by simp))))
  refine start_ (n := 10) (S := fun w' => w'.cell? ⟨g, 2, none⟩ = some (.slice A2 l2.length c2) ∧ w'.cell? ⟨gq, 5, none⟩ = some (.int .i64 wat) ∧ w'.cell? ⟨gq, 3, none⟩ = some (.slice A4 qw.length c4)) (ds := []) (flg 0 10) (by kernel_rfl) rfl rfl ⟨(blk_cell ((HD.out.drew).old HG.out HN0.out HN2.out) 2).trans rfl, (blk_cell ((HD.out.drew).blk (g := gq) (cs := #[.int .i64 23, .int .i64 at_, .int .i64 n, .slice A4 qw.length c4, .slice A5 qb.length c5, .int .i64 wat]) (t := 36) (by simp)) 5).trans rfl, (blk_cell ((HD.out.drew).blk (g := gq) (cs := #[.int .i64 23, .int .i64 at_, .int .i64 n, .slice A4 qw.length c4, .slice A5 qb.length c5, .int .i64 wat]) (t := 36) (by simp)) 3).trans rfl⟩ (fun hHeld => ?_)
  have HD1 := aM HD.out.drew
  clear HD
  generalize w4.drew = w5 at HD1 hHeld ⊢
  have HD := HD1
  clear HD1
  refine pk (i := 0) (N := some 144) (flg 1 10) ?_
  refine pk (i := 1) (N := some 145) (flg 2 10) ?_
  refine pk (i := 2) (N := some 146) (flg 3 10) ?_
  refine tk3 (i := 3) (N := some 147) (flg 4 10) hHeld ?_
  refine pk (i := 4) (N := some 148) (flg 5 10) ?_
  refine tk3 (i := 5) (N := some 149) (flg 6 10) hHeld ?_
  refine pk (i := 6) (N := some 150) (flg 7 10) ?_
  refine pk (i := 7) (N := some 151) (flg 8 10) ?_
  refine tk3 (i := 8) (N := some 152) (flg 9 10) hHeld ?_
  refine one_ (i := 9) (N := some 153) (flg 10 10) rfl rfl (by kernel_rfl) (by decide) (fun K hK => ?_)
  refine copy_ (enc := (Value.int .i64)) (h1 := fun _ => rfl) 0 (A := A2) (c := c2) (As := A4) (cs := c4) (xs := l2) (ys := qw) wat.toNat (by rfl) rfl rfl Try.underlying23 HS.out (by show Value.slice AD ND CD = _; rw [HAD.out, HND.out, HCD.out]) rfl HD.out.rows.2.2.1 (Kd.C_below HC4.out HD.out.2.2.2.1) HO.out ?_
  intro w6 hR hg
  have HD1 := aM (HD.out.put2 hR hg (by intro x hx; simp only [List.nil_append, List.cons_append, List.mem_cons, List.not_mem_nil, or_false] at hx; rcases hx with rfl | rfl | rfl <;> simp))
  clear HD hR hg
  have HD := HD1
  clear HD1
  rw [HX.out] at HD
  refine hK.out _ _ ⟨(blk_cell ((HD.out).old HG.out HN0.out HN2.out) 2).trans rfl, (blk_cell ((HD.out).blk (g := gq) (cs := #[.int .i64 23, .int .i64 at_, .int .i64 n, .slice A4 qw.length c4, .slice A5 qb.length c5, .int .i64 wat]) (t := 36) (by simp)) 5).trans rfl, (blk_cell ((HD.out).blk (g := gq) (cs := #[.int .i64 23, .int .i64 at_, .int .i64 n, .slice A4 qw.length c4, .slice A5 qb.length c5, .int .i64 wat]) (t := 36) (by simp)) 3).trans rfl⟩ (fun hHeld => ?_)
  clear hK K
  refine norm_ (a' := ?_) ?_ ?_
  rotate_left
  · show Act.put _ (some 153) _ = _
    simp only [Act.put, List.setIfInBounds_toArray, List.set_cons_zero, List.set_cons_succ, i64_w, i32_w]
    rfl
  refine done_ (by kernel_rfl) ?_
  clear hz0 fz0 hz1 fz1 hz2 fz2 hz3 fz3 hz4 fz4 hz5 fz5
  go_wp2
  refine start_ (n := 15) (S := fun w' => w'.cell? ⟨g, 2, none⟩ = some (.slice A2 l2.length c2) ∧ w'.cell? ⟨gq, 1, none⟩ = some (.int .i64 at_) ∧ w'.cell? ⟨gq, 2, none⟩ = some (.int .i64 n)) (ds := []) (flg 0 15) (by kernel_rfl) rfl rfl ⟨(blk_cell ((HD.out.drew).old HG.out HN0.out HN2.out) 2).trans rfl, (blk_cell ((HD.out.drew).blk (g := gq) (cs := #[.int .i64 23, .int .i64 at_, .int .i64 n, .slice A4 qw.length c4, .slice A5 qb.length c5, .int .i64 wat]) (t := 36) (by simp)) 1).trans rfl, (blk_cell ((HD.out.drew).blk (g := gq) (cs := #[.int .i64 23, .int .i64 at_, .int .i64 n, .slice A4 qw.length c4, .slice A5 qb.length c5, .int .i64 wat]) (t := 36) (by simp)) 2).trans rfl⟩ (fun hHeld => ?_)
  have HD1 := aM HD.out.drew
  clear HD
  generalize w6.drew = w7 at HD1 hHeld ⊢
  have HD := HD1
  clear HD1
  refine pk (i := 0) (N := some 154) (flg 1 15) ?_
  refine pk (i := 1) (N := some 155) (flg 2 15) ?_
  refine pk (i := 2) (N := some 156) (flg 3 15) ?_
  refine tk3 (i := 3) (N := some 157) (flg 4 15) hHeld ?_
  refine pk (i := 4) (N := some 158) (flg 5 15) ?_
  refine tk3 (i := 5) (N := some 159) (flg 6 15) hHeld ?_
  refine pk (i := 6) (N := some 160) (flg 7 15) ?_
  refine tk3 (i := 7) (N := some 161) (flg 8 15) hHeld ?_
  refine pk (i := 8) (N := some 162) (flg 9 15) ?_
  refine tk3 (i := 9) (N := some 163) (flg 10 15) hHeld ?_
  refine pk (i := 10) (N := some 164) (flg 11 15) ?_
  refine pk (i := 11) (N := some 165) (flg 12 15) ?_
  refine one_ (i := 12) (N := some 166) (flg 13 15) rfl rfl (by kernel_rfl) (by decide) (fun K hK => ?_)
  refine goes_ Try.func59 (by kernel_rfl) rfl #[.slice AR R.length cR] (by rfl) rfl rfl (by (try simp only [List.map_toArray, List.map_cons, List.map_nil]); first | done | rfl) ?_
  refine (slices_Clone_int_int.calls AR cR R r _ (HC.out HD.out.rows) HRC.out hcl.out).mono ?_
  rintro e w8 ⟨v6, rfl, ho, hb_⟩
  refine ⟨_, rfl, ?_⟩
  have HV := aM (Kd.R_lower ho HD.out.2.2.2.2.1)
  have HD1 := aM (HD.out.below hb_)
  clear ho hb_ HD
  have HD := HD1
  clear HD1
  obtain ⟨Av, cv, ev⟩ := Kd.R_slice HV.out
  subst ev
  refine hK.out _ _ ⟨(blk_cell ((HD.out).old HG.out HN0.out HN2.out) 2).trans rfl, (blk_cell ((HD.out).blk (g := gq) (cs := #[.int .i64 23, .int .i64 at_, .int .i64 n, .slice A4 qw.length c4, .slice A5 qb.length c5, .int .i64 wat]) (t := 36) (by simp)) 1).trans rfl, (blk_cell ((HD.out).blk (g := gq) (cs := #[.int .i64 23, .int .i64 at_, .int .i64 n, .slice A4 qw.length c4, .slice A5 qb.length c5, .int .i64 wat]) (t := 36) (by simp)) 2).trans rfl⟩ (fun hHeld => ?_)
  clear hK K
  refine norm_ (a' := ?_) ?_ ?_
  rotate_left
  · show Act.put _ (some 166) _ = _
    simp only [Act.put, List.setIfInBounds_toArray, List.set_cons_zero, List.set_cons_succ, i64_w, i32_w]
    rfl
  refine pk (i := 13) (N := some 167) (flg 14 15) ?_
  refine one_ (i := 14) (N := none) (flg 15 15) rfl rfl (by kernel_rfl) (by decide) (fun K hK => ?_)
  obtain ⟨hx0, fx0, hx1, fx1, hx2, fx2, hx3, fx3, hx4, fx4, hx5, fx5⟩ := bk6 (HD.out.blk (g := ga) (cs := #[.int .i64 23, .int .i64 0, .int .i64 0, .int .i64 0, .slice none 0 0, .slice none 0 0]) (t := 32) (by simp))
  refine skip_ (w1 := ?_) (by rfl) rfl ?_ ?_
  rotate_left
  · go_simp
    rfl
  have HV1 := aM (R_cell_ HV.out (HD.out.blk (g := ga) (cs := #[.int .i64 23, .int .i64 0, .int .i64 0, .int .i64 0, .slice none 0 0, .slice none 0 0]) (t := 32) (by simp)) (by decide) 4 (.slice Av r.length cv))
  have HD1 := aM (HD.out.cell [] [(gr, #[.int .i64 0, .int .i64 0, .int .i64 0, .int .i64 0, .slice none 0 0, .slice none 0 0], 32), (gq, #[.int .i64 23, .int .i64 at_, .int .i64 n, .slice A4 qw.length c4, .slice A5 qb.length c5, .int .i64 wat], 36)] (cs := #[.int .i64 23, .int .i64 0, .int .i64 0, .int .i64 0, .slice none 0 0, .slice none 0 0]) (cs' := #[.int .i64 23, .int .i64 0, .int .i64 0, .int .i64 0, .slice Av r.length cv, .slice none 0 0]) 4 (.slice Av r.length cv))
  clear HV HD hx0 fx0 hx1 fx1 hx2 fx2 hx3 fx3 hx4 fx4 hx5 fx5
  generalize World.setCell _ _ _ = w7 at HV1 HD1 ⊢
  have HV := HV1
  clear HV1
  have HD := HD1
  clear HD1
  refine hK.out _ _ ⟨(blk_cell ((HD.out).old HG.out HN0.out HN2.out) 2).trans rfl, (blk_cell ((HD.out).blk (g := gq) (cs := #[.int .i64 23, .int .i64 at_, .int .i64 n, .slice A4 qw.length c4, .slice A5 qb.length c5, .int .i64 wat]) (t := 36) (by simp)) 1).trans rfl, (blk_cell ((HD.out).blk (g := gq) (cs := #[.int .i64 23, .int .i64 at_, .int .i64 n, .slice A4 qw.length c4, .slice A5 qb.length c5, .int .i64 wat]) (t := 36) (by simp)) 2).trans rfl⟩ (fun hHeld => ?_)
  clear hK K
  refine done_ (by kernel_rfl) ?_
  obtain ⟨hz0, fz0, hz1, fz1, hz2, fz2, hz3, fz3, hz4, fz4, hz5, fz5⟩ := bk6 (HD.out.blk (g := gq) (cs := #[.int .i64 23, .int .i64 at_, .int .i64 n, .slice A4 qw.length c4, .slice A5 qb.length c5, .int .i64 wat]) (t := 36) (by simp))
  clear hz0 fz0 hz1 fz1 hz2 fz2 hz3 fz3 hz4 fz4 hz5 fz5
  obtain ⟨hz0, fz0, hz1, fz1, hz2, fz2, hz3, fz3, hz4, fz4, hz5, fz5⟩ := bk6 (HD.out.blk (g := gq) (cs := #[.int .i64 23, .int .i64 at_, .int .i64 n, .slice A4 qw.length c4, .slice A5 qb.length c5, .int .i64 wat]) (t := 36) (by simp))
  go_wp2_with (first | ((with_reducible refine gate_dst (N := 188) rfl ?_); refine wpList_load_row rfl 32 (.tmp 5) rfl ga rfl 32 #[.int .i64 23, .int .i64 0, .int .i64 0, .int .i64 0, .slice Av r.length cv, .slice none 0 0] (0, 0) _ (HD.out.blk (by simp)) hu32 rfl (by kernel_rfl) ?_) | ((with_reducible refine gate_store (t := 32) (p := 4) rfl ?_); refine wpList_store_row rfl 32 (.tmp 4) (.tmp 188) rfl gr #[.int .i64 23, .int .i64 0, .int .i64 0, .int .i64 0, .slice Av r.length cv, .slice none 0 0] rfl rfl 32 #[.int .i64 0, .int .i64 0, .int .i64 0, .int .i64 0, .slice none 0 0, .slice none 0 0] (HD.out.blk (cs := #[.int .i64 0, .int .i64 0, .int .i64 0, .int .i64 0, .slice none 0 0, .slice none 0 0]) (t := 32) (by simp)) (by kernel_rfl) rfl (by simp [Value.oneCell']) ?_; have HD1 := aM (HD.out.row [(ga, #[.int .i64 23, .int .i64 0, .int .i64 0, .int .i64 0, .slice Av r.length cv, .slice none 0 0], 32)] [(gq, #[.int .i64 23, .int .i64 at_, .int .i64 n, .slice A4 qw.length c4, .slice A5 qb.length c5, .int .i64 wat], 36)] #[.int .i64 23, .int .i64 0, .int .i64 0, .int .i64 0, .slice Av r.length cv, .slice none 0 0]); (try (have HV1 := aM (R_row HV.out (HD.out.blk (g := gr) (cs := #[.int .i64 0, .int .i64 0, .int .i64 0, .int .i64 0, .slice none 0 0, .slice none 0 0]) (t := 32) (by simp)) (by decide) #[.int .i64 23, .int .i64 0, .int .i64 0, .int .i64 0, .slice Av r.length cv, .slice none 0 0]); clear HV; have HV := HV1; clear HV1)); (try (have HV1 := aM (R_row HV2.out (HD.out.blk (g := gr) (cs := #[.int .i64 0, .int .i64 0, .int .i64 0, .int .i64 0, .slice none 0 0, .slice none 0 0]) (t := 32) (by simp)) (by decide) #[.int .i64 23, .int .i64 0, .int .i64 0, .int .i64 0, .slice Av r.length cv, .slice none 0 0]); clear HV2; have HV2 := HV1; clear HV1)); clear HD; have HD := HD1; clear HD1))
  refine bodyPost_ret (results_cell_row rfl _ _ gr 32 #[.int .i64 23, .int .i64 0, .int .i64 0, .int .i64 0, .slice Av r.length cv, .slice none 0 0] (0, 0) _ rfl (HD.out.blk (by simp)) hu32 rfl (by kernel_rfl)) rfl ?_
  exact ⟨_, _, rfl, HD.out.rows, HV.out, Kd.R_nil _ _ _ _ _, HD.out.2.2.2.1, HD.out.2.2.2.2⟩
def impl_does.f (k : Nat) (l0 l1 : List Bool) (l2 l3 : List Int) (kd at_ n : Int) (qw : List Int) (qb : List Bool) (wat : Int) : Option (List Bool × List Int × Int × Int × List Int × List Bool) :=
  if kd = 1 then (if 0 ≤ at_ ∧ 0 ≤ n ∧ at_ + n ≤ (l0.length : Int) then (impl_filled.f k ((l0.take (at_ + n).toNat).drop at_.toNat)).bind fun r => some (l0, l2, 0, 0, [], r) else none)
  else if kd = 2 then (if 0 ≤ at_ ∧ 0 ≤ n ∧ at_ + n ≤ (l1.length : Int) then (impl_filled.f k ((l1.take (at_ + n).toNat).drop at_.toNat)).bind fun r => some (l0, l2, 0, 0, [], r) else none)
  else if kd = 3 then (if 0 ≤ at_ ∧ 0 ≤ n ∧ at_ + n ≤ (l2.length : Int) then (slices_Clone_int_int.f ((l2.take (at_ + n).toNat).drop at_.toNat)).bind fun r => some (l0, l2, 0, 0, r, []) else none)
  else if kd = 4 then (if 0 ≤ at_ ∧ 0 ≤ n ∧ at_ + n ≤ (l3.length : Int) then (slices_Clone_int_int.f ((l3.take (at_ + n).toNat).drop at_.toNat)).bind fun r => some (l0, l2, 0, 0, r, []) else none)
  else if kd = 5 then (if (0 ≤ at_ ∧ at_ + (qb.length : Int) ≤ (l0.length : Int)) ∧ slices_Clone_bool_bool.f qb = some qb ∧ slices_Clone_int_int.f qw = some qw then some (over l0 at_.toNat qb, l2, at_, 0, qw, qb) else none)
  else if kd = 6 then (if (0 ≤ at_ ∧ at_ + (qw.length : Int) ≤ (l2.length : Int)) ∧ slices_Clone_bool_bool.f qb = some qb ∧ slices_Clone_int_int.f qw = some qw then some (l0, over l2 at_.toNat qw, at_, 0, qw, qb) else none)
  else if kd = 15 then (if 0 ≤ at_ ∧ at_ + (qb.length : Int) ≤ (l0.length : Int) then (impl_written.f 15 at_ n qw qb wat).bind fun m => some (over l0 at_.toNat qb, l2, at_, m, [], []) else none)
  else if kd = 16 then (if 0 ≤ at_ ∧ at_ + (qw.length : Int) ≤ (l2.length : Int) then (impl_written.f 16 at_ n qw qb wat).bind fun m => some (l0, over l2 at_.toNat qw, at_, m, [], []) else none)
  else if kd = 22 then (if (0 ≤ at_ ∧ at_ < (l2.length : Int) ∧ qw.length = 2) ∧ slices_Clone_bool_bool.f qb = some qb ∧ slices_Clone_int_int.f qw = some qw then some (l0, l2.set at_.toNat (Go.bits .or .i64 (Go.bits .and .i64 (rd l2 at_) (rd qw 0)) (Go.bits .andNot .i64 (rd qw 1) (rd qw 0))), at_, 0, qw, qb) else none)
  else if kd = 23 then (if (0 ≤ wat ∧ wat + (qw.length : Int) ≤ (l2.length : Int)) ∧ 0 ≤ at_ ∧ 0 ≤ n ∧ at_ + n ≤ (l2.length : Int) then (slices_Clone_int_int.f (((over l2 wat.toNat qw).take (at_ + n).toNat).drop at_.toNat)).bind fun r => some (l0, over l2 wat.toNat qw, 0, 0, r, []) else none)
  else none
theorem impl_does.mono : ∀ a0 a1 a2 a3 a4 a5 a6 a7 a8 a9 k, LeO (impl_does.f k a0 a1 a2 a3 a4 a5 a6 a7 a8 a9) (impl_does.f (k + 1) a0 a1 a2 a3 a4 a5 a6 a7 a8 a9) := by
  intro a0 a1 a2 a3 a4 a5 a6 a7 a8 a9 k
  unfold impl_does.f
  repeat' first
    | (with_reducible exact impl_filled.mono _ _)
    | (with_reducible exact LeO.refl _)
    | (with_reducible exact LeO.none _)
    | (with_reducible refine LeO.ite ?_ ?_)
    | (with_reducible refine LeO.bind ?_ (fun _ => ?_))

theorem impl_does.calls (k : Nat) (kd : Int) (g : Nat) (A0 A1 A2 A3 : Option Addr) (c0 c1 c2 c3 : Nat) (l0 l1 : List Bool) (l2 l3 : List Int) (at_ n wat : Int) (A4 A5 : Option Addr) (c4 c5 : Nat) (qw : List Int) (qb : List Bool) (w0 w : World)
    (hb : w.heap[g]? = some (.cells #[.slice A0 l0.length c0, .slice A1 l1.length c1, .slice A2 l2.length c2, .slice A3 l3.length c3] 30 (0, 0))) (hD : DX w0 w w [] (.slice A0 l0.length c0) (.slice A1 l1.length c1) (.slice A2 l2.length c2) (.slice A3 l3.length c3) l0 l1 l2 l3) (hC4 : Kd.C (Kd.int .i64) w0 A4 qw.length qw) (hc4 : qw.length ≤ c4) (hC5 : Kd.C Kd.bool w0 A5 qb.length qb) (hc5 : qb.length ≤ c5)
    (r0 : List Bool) (r2 : List Int) (ra rn : Int) (rw_ : List Int) (rb : List Bool) (h : impl_does.f k l0 l1 l2 l3 kd at_ n qw qb wat = some (r0, r2, ra, rn, rw_, rb)) :
    Calls Try.prog 46 #[.pointer (some ⟨g, 0, none⟩), .agg #[.int .i64 kd, .int .i64 at_, .int .i64 n, .slice A4 qw.length c4, .slice A5 qb.length c5, .int .i64 wat]] w (DoesPost w0 w (.slice A0 l0.length c0) (.slice A1 l1.length c1) (.slice A2 l2.length c2) (.slice A3 l3.length c3) r0 l1 r2 l3 kd ra rn rw_ rb) := by
  unfold impl_does.f at h
  by_cases e : kd = 1
  · subst e
    rw [if_pos rfl] at h
    split at h
    case isFalse => exact absurd h (by simp)
    case isTrue c =>
      obtain ⟨r, hr, h⟩ := Option.bind_eq_some_iff.mp h
      simp only [Option.some.injEq, Prod.mk.injEq] at h
      obtain ⟨rfl, rfl, rfl, rfl, rfl, rfl⟩ := h
      exact does_1 g A0 A1 A2 A3 c0 c1 c2 c3 l0 l1 l2 l3 at_ n wat A4 A5 c4 c5 qw qb w0 w hb hD hC4 hc4 hC5 hc5 k c.1 c.2.1 c.2.2 r hr
  by_cases e : kd = 2
  · subst e
    repeat (rw [if_neg (by decide)] at h)
    rw [if_pos rfl] at h
    split at h
    case isFalse => exact absurd h (by simp)
    case isTrue c =>
      obtain ⟨r, hr, h⟩ := Option.bind_eq_some_iff.mp h
      simp only [Option.some.injEq, Prod.mk.injEq] at h
      obtain ⟨rfl, rfl, rfl, rfl, rfl, rfl⟩ := h
      exact does_2 g A0 A1 A2 A3 c0 c1 c2 c3 l0 l1 l2 l3 at_ n wat A4 A5 c4 c5 qw qb w0 w hb hD hC4 hc4 hC5 hc5 k c.1 c.2.1 c.2.2 r hr
  by_cases e : kd = 3
  · subst e
    repeat (rw [if_neg (by decide)] at h)
    rw [if_pos rfl] at h
    split at h
    case isFalse => exact absurd h (by simp)
    case isTrue c =>
      obtain ⟨r, hr, h⟩ := Option.bind_eq_some_iff.mp h
      simp only [Option.some.injEq, Prod.mk.injEq] at h
      obtain ⟨rfl, rfl, rfl, rfl, rfl, rfl⟩ := h
      exact does_3 g A0 A1 A2 A3 c0 c1 c2 c3 l0 l1 l2 l3 at_ n wat A4 A5 c4 c5 qw qb w0 w hb hD hC4 hc4 hC5 hc5 c.1 c.2.1 c.2.2 r hr
  by_cases e : kd = 4
  · subst e
    repeat (rw [if_neg (by decide)] at h)
    rw [if_pos rfl] at h
    split at h
    case isFalse => exact absurd h (by simp)
    case isTrue c =>
      obtain ⟨r, hr, h⟩ := Option.bind_eq_some_iff.mp h
      simp only [Option.some.injEq, Prod.mk.injEq] at h
      obtain ⟨rfl, rfl, rfl, rfl, rfl, rfl⟩ := h
      exact does_4 g A0 A1 A2 A3 c0 c1 c2 c3 l0 l1 l2 l3 at_ n wat A4 A5 c4 c5 qw qb w0 w hb hD hC4 hc4 hC5 hc5 c.1 c.2.1 c.2.2 r hr
  by_cases e : kd = 5
  · subst e
    repeat (rw [if_neg (by decide)] at h)
    rw [if_pos rfl] at h
    split at h
    case isFalse => exact absurd h (by simp)
    case isTrue c =>
      simp only [Option.some.injEq, Prod.mk.injEq] at h
      obtain ⟨rfl, rfl, rfl, rfl, rfl, rfl⟩ := h
      exact does_5 g A0 A1 A2 A3 c0 c1 c2 c3 l0 l1 l2 l3 at_ n wat A4 A5 c4 c5 qw qb w0 w hb hD hC4 hc4 hC5 hc5 c.1.1 c.1.2 c.2.1 c.2.2
  by_cases e : kd = 6
  · subst e
    repeat (rw [if_neg (by decide)] at h)
    rw [if_pos rfl] at h
    split at h
    case isFalse => exact absurd h (by simp)
    case isTrue c =>
      simp only [Option.some.injEq, Prod.mk.injEq] at h
      obtain ⟨rfl, rfl, rfl, rfl, rfl, rfl⟩ := h
      exact does_6 g A0 A1 A2 A3 c0 c1 c2 c3 l0 l1 l2 l3 at_ n wat A4 A5 c4 c5 qw qb w0 w hb hD hC4 hc4 hC5 hc5 c.1.1 c.1.2 c.2.1 c.2.2
  by_cases e : kd = 15
  · subst e
    repeat (rw [if_neg (by decide)] at h)
    rw [if_pos rfl] at h
    split at h
    case isFalse => exact absurd h (by simp)
    case isTrue c =>
      obtain ⟨m, hm, h⟩ := Option.bind_eq_some_iff.mp h
      simp only [Option.some.injEq, Prod.mk.injEq] at h
      obtain ⟨rfl, rfl, rfl, rfl, rfl, rfl⟩ := h
      exact does_15 g A0 A1 A2 A3 c0 c1 c2 c3 l0 l1 l2 l3 at_ n wat A4 A5 c4 c5 qw qb w0 w hb hD hC4 hc4 hC5 hc5 c.1 c.2 m hm
  by_cases e : kd = 16
  · subst e
    repeat (rw [if_neg (by decide)] at h)
    rw [if_pos rfl] at h
    split at h
    case isFalse => exact absurd h (by simp)
    case isTrue c =>
      obtain ⟨m, hm, h⟩ := Option.bind_eq_some_iff.mp h
      simp only [Option.some.injEq, Prod.mk.injEq] at h
      obtain ⟨rfl, rfl, rfl, rfl, rfl, rfl⟩ := h
      exact does_16 g A0 A1 A2 A3 c0 c1 c2 c3 l0 l1 l2 l3 at_ n wat A4 A5 c4 c5 qw qb w0 w hb hD hC4 hc4 hC5 hc5 c.1 c.2 m hm
  by_cases e : kd = 22
  · subst e
    repeat (rw [if_neg (by decide)] at h)
    rw [if_pos rfl] at h
    split at h
    case isFalse => exact absurd h (by simp)
    case isTrue c =>
      simp only [Option.some.injEq, Prod.mk.injEq] at h
      obtain ⟨rfl, rfl, rfl, rfl, rfl, rfl⟩ := h
      exact does_22 g A0 A1 A2 A3 c0 c1 c2 c3 l0 l1 l2 l3 at_ n wat A4 A5 c4 c5 qw qb w0 w hb hD hC4 hc4 hC5 hc5 c.1.1 c.1.2.1 c.1.2.2 c.2.1 c.2.2
  by_cases e : kd = 23
  · subst e
    repeat (rw [if_neg (by decide)] at h)
    rw [if_pos rfl] at h
    split at h
    case isFalse => exact absurd h (by simp)
    case isTrue c =>
      obtain ⟨r, hr, h⟩ := Option.bind_eq_some_iff.mp h
      simp only [Option.some.injEq, Prod.mk.injEq] at h
      obtain ⟨rfl, rfl, rfl, rfl, rfl, rfl⟩ := h
      exact does_23 g A0 A1 A2 A3 c0 c1 c2 c3 l0 l1 l2 l3 at_ n wat A4 A5 c4 c5 qw qb w0 w hb hD hC4 hc4 hC5 hc5 c.1.1 c.1.2 c.2.1 c.2.2.1 c.2.2.2 r hr
  simp only [*, if_false] at h
  exact absurd h (by simp)
end Go.Proofs.Ytiogbjbkfhhdhaa.G
