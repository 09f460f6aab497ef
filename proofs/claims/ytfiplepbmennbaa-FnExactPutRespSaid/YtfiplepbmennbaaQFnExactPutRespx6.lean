/- Functions and contracts of the law FnExactPutResp: what the Go text computes, step by step. -/
import Derived.Test.YtfiplepbmennbaaL
import Derived.Test.YtfiplepbmennbaaQFnExactPutRespx0
import Derived.Test.YtfiplepbmennbaaQFnExactPutRespx5
namespace Go.Proofs.Ytfiplepbmennbaa.PFnExactPutResp
open Go.Proofs.Ytfiplepbmennbaa.K Go.Proofs.Ytfiplepbmennbaa.G Go.RowKit Go.Proofs.YtfiplepbmennbaaW.PrintWords Go.Proofs.YtfiplepbmennbaaW.PrintLast Go.Proofs.YtfiplepbmennbaaW.PrintMore
attribute [local go_sem] max2_int min2_int max_two min_two max_three min_three max_four min_four   -- for this text's walks alone
set_option linter.unusedVariables false
set_option linter.unusedSimpArgs false

/-! ### impl_RespOk: function 23 -/
def impl_RespOk.j0 : Nat → Int → Bool → Bool → Int → Int → Int → Int → List Int → List Bool → Int → Int → Option (Bool)
 | 0, _, _, _, _, _, _, _, _, _, _, _ => none
 | k + 1, x5, x6, x49, x230000, x230001, x230002, x230003, x230004, x230005, x240000, x240001 => if x49 = true then (some false) else (if x240001 > 1 then (if ((x230005.length : Int) % 8) = 0 then (if x5 = 0 then (if x230003 = 0 then (if x5 > 0 then ((impl_in.f x230003 1 x5).bind fun t243 => (if t243 = true then (if x6 = true then ((impl_isWord.f x230002).bind fun t244 => (if t244 = true then (some true) else (some (x230002 == 0)))) else (some (x230002 == 0))) else (some false))) else (if x6 = true then ((impl_isWord.f x230002).bind fun t245 => (if t245 = true then (some true) else (some (x230002 == 0)))) else (some (x230002 == 0)))) else (some false)) else (if x5 > 0 then ((impl_in.f x230003 1 x5).bind fun t246 => (if t246 = true then (if x6 = true then ((impl_isWord.f x230002).bind fun t247 => (if t247 = true then (some true) else (some (x230002 == 0)))) else (some (x230002 == 0))) else (some false))) else (if x6 = true then ((impl_isWord.f x230002).bind fun t248 => (if t248 = true then (some true) else (some (x230002 == 0)))) else (some (x230002 == 0))))) else (some false)) else (if x5 = 0 then (if x230003 = 0 then (if x5 > 0 then ((impl_in.f x230003 1 x5).bind fun t249 => (if t249 = true then (if x6 = true then ((impl_isWord.f x230002).bind fun t250 => (if t250 = true then (some true) else (some (x230002 == 0)))) else (some (x230002 == 0))) else (some false))) else (if x6 = true then ((impl_isWord.f x230002).bind fun t251 => (if t251 = true then (some true) else (some (x230002 == 0)))) else (some (x230002 == 0)))) else (some false)) else (if x5 > 0 then ((impl_in.f x230003 1 x5).bind fun t252 => (if t252 = true then (if x6 = true then ((impl_isWord.f x230002).bind fun t253 => (if t253 = true then (some true) else (some (x230002 == 0)))) else (some (x230002 == 0))) else (some false))) else (if x6 = true then ((impl_isWord.f x230002).bind fun t254 => (if t254 = true then (some true) else (some (x230002 == 0)))) else (some (x230002 == 0))))))
def impl_RespOk.f (k : Nat) (a0_0 : Int) (a0_1 : Int) (a0_2 : Int) (a0_3 : Int) (l0_4 : List Int) (l0_5 : List Bool) : Option (Bool) := (impl_isKind.f a0_0).bind fun t230 => (if t230 = true then (if a0_1 = 0 then ((impl_shape.f k a0_0).bind fun bt232 => ((impl_in.f (l0_4.length : Int) bt232.1 bt232.2.1).bind fun t240 => (if t240 = true then ((impl_in.f (l0_5.length : Int) bt232.2.2.1 bt232.2.2.2.1).bind fun t241 => (if t241 = true then ((impl_allWords.f l0_4).bind fun t242 => (impl_RespOk.j0 k bt232.2.2.2.2.1 bt232.2.2.2.2.2 (!t242) a0_0 a0_1 a0_2 a0_3 l0_4 l0_5 bt232.2.2.1 bt232.2.2.2.1)) else (impl_RespOk.j0 k bt232.2.2.2.2.1 bt232.2.2.2.2.2 true a0_0 a0_1 a0_2 a0_3 l0_4 l0_5 bt232.2.2.1 bt232.2.2.2.1))) else (impl_RespOk.j0 k bt232.2.2.2.2.1 bt232.2.2.2.2.2 true a0_0 a0_1 a0_2 a0_3 l0_4 l0_5 bt232.2.2.1 bt232.2.2.2.1)))) else ((impl_isFault.f a0_0 a0_1 a0_2 a0_3 l0_4 l0_5).bind fun t231 => (some t231))) else (some false))
theorem impl_RespOk.mono_l : ∀ k, (∀ y0 y1 y2 y3 y4 y5 y6 y7 y8 y9 y10, LeO (impl_RespOk.j0 k y0 y1 y2 y3 y4 y5 y6 y7 y8 y9 y10) (impl_RespOk.j0 (k + 1) y0 y1 y2 y3 y4 y5 y6 y7 y8 y9 y10))
 | 0 => fun _ _ _ _ _ _ _ _ _ _ _ r h => by simp [impl_RespOk.j0] at h
 | k + 1 => by
  have ih0 := impl_RespOk.mono_l k
  ·intro y0 y1 y2 y3 y4 y5 y6 y7 y8 y9 y10
   unfold impl_RespOk.j0
   repeat' first
   | (with_reducible exact ih0 _ _ _ _ _ _ _ _ _ _ _)
   | (with_reducible exact impl_shape.mono _ _)
   | (with_reducible exact LeO.refl _)
   | (with_reducible exact LeO.none _)
   | (with_reducible refine LeO.ite ?_ ?_)
   | (with_reducible refine LeO.bind ?_ (fun _ => ?_))
   | exact ih0 _ _ _ _ _ _ _ _ _ _ _
   | exact impl_shape.mono _ _
   | exact LeO.none _
   | refine LeO.ite ?_ ?_
   | refine LeO.bind ?_ (fun _ => ?_)
theorem impl_RespOk.mono : ∀ a0 a1 a2 a3 a4 a5 k, LeO (impl_RespOk.f k a0 a1 a2 a3 a4 a5) (impl_RespOk.f (k + 1) a0 a1 a2 a3 a4 a5) := by
 intro a0 a1 a2 a3 a4 a5 k
 have ih0 := impl_RespOk.mono_l k
 unfold impl_RespOk.f
 repeat' first
   | (with_reducible exact ih0 _ _ _ _ _ _ _ _ _ _ _)
   | (with_reducible exact impl_shape.mono _ _)
   | (with_reducible exact LeO.refl _)
   | (with_reducible exact LeO.none _)
   | (with_reducible refine LeO.ite ?_ ?_)
   | (with_reducible refine LeO.bind ?_ (fun _ => ?_))
   | exact ih0 _ _ _ _ _ _ _ _ _ _ _
   | exact impl_shape.mono _ _
   | exact LeO.none _
   | refine LeO.ite ?_ ?_
   | refine LeO.bind ?_ (fun _ => ?_)
set_option maxHeartbeats 8000000 in
set_option maxRecDepth 100000 in
theorem impl_RespOk.calls (k : Nat) (a0_0 : Int) (a0_1 : Int) (a0_2 : Int) (a0_3 : Int) (A0_4 : Option Addr) (c0_4 : Nat) (l0_4 : List Int) (A0_5 : Option Addr) (c0_5 : Nat) (l0_5 : List Bool) (r : Bool) (w : World) (hr0_4 : Kd.C (Kd.int .i64) w A0_4 l0_4.length l0_4) (hc0_4 : l0_4.length ≤ c0_4) (hr0_5 : Kd.C Kd.bool w A0_5 l0_5.length l0_5) (hc0_5 : l0_5.length ≤ c0_5) (h : impl_RespOk.f k a0_0 a0_1 a0_2 a0_3 l0_4 l0_5 = some r) :
  Calls Try.prog 23 #[.agg #[.int .i64 a0_0, .int .i64 a0_1, .int .i64 a0_2, .int .i64 a0_3, .slice A0_4 l0_4.length c0_4, .slice A0_5 l0_5.length c0_5]] w fun e w' => e = .returned (.bool r) ∧ Below w.heap.size w w' := by
 have hu29 := Try.underlying29
 have hu81 := Try.underlying81
 have HR0_4 := aM hr0_4
 have HC0_4 := aM hc0_4
 clear hr0_4 hc0_4
 have HR0_5 := aM hr0_5
 have HC0_5 := aM hc0_5
 clear hr0_5 hc0_5
 have HB := aM (Below.refl w.heap.size w)
 have H : ((impl_isKind.f a0_0).bind fun t230 => (if t230 = true then (if a0_1 = 0 then ((impl_shape.f k a0_0).bind fun bt232 => ((impl_in.f (l0_4.length : Int) bt232.1 bt232.2.1).bind fun t240 => (if t240 = true then ((impl_in.f (l0_5.length : Int) bt232.2.2.1 bt232.2.2.2.1).bind fun t241 => (if t241 = true then ((impl_allWords.f l0_4).bind fun t242 => (impl_RespOk.j0 k bt232.2.2.2.2.1 bt232.2.2.2.2.2 (!t242) a0_0 a0_1 a0_2 a0_3 l0_4 l0_5 bt232.2.2.1 bt232.2.2.2.1)) else (impl_RespOk.j0 k bt232.2.2.2.2.1 bt232.2.2.2.2.2 true a0_0 a0_1 a0_2 a0_3 l0_4 l0_5 bt232.2.2.1 bt232.2.2.2.1))) else (impl_RespOk.j0 k bt232.2.2.2.2.1 bt232.2.2.2.2.2 true a0_0 a0_1 a0_2 a0_3 l0_4 l0_5 bt232.2.2.1 bt232.2.2.2.1)))) else ((impl_isFault.f a0_0 a0_1 a0_2 a0_3 l0_4 l0_5).bind fun t231 => (some t231))) else (some false))) = some r := h
 clear h
 replace H := Option.bind_eq_some_iff.mp H
 obtain ⟨t230, A20, H⟩ := H
 replace H : (if t230 = true then (if a0_1 = 0 then ((impl_shape.f k a0_0).bind fun bt232 => ((impl_in.f (l0_4.length : Int) bt232.1 bt232.2.1).bind fun t240 => (if t240 = true then ((impl_in.f (l0_5.length : Int) bt232.2.2.1 bt232.2.2.2.1).bind fun t241 => (if t241 = true then ((impl_allWords.f l0_4).bind fun t242 => (impl_RespOk.j0 k bt232.2.2.2.2.1 bt232.2.2.2.2.2 (!t242) a0_0 a0_1 a0_2 a0_3 l0_4 l0_5 bt232.2.2.1 bt232.2.2.2.1)) else (impl_RespOk.j0 k bt232.2.2.2.2.1 bt232.2.2.2.2.2 true a0_0 a0_1 a0_2 a0_3 l0_4 l0_5 bt232.2.2.1 bt232.2.2.2.1))) else (impl_RespOk.j0 k bt232.2.2.2.2.1 bt232.2.2.2.2.2 true a0_0 a0_1 a0_2 a0_3 l0_4 l0_5 bt232.2.2.1 bt232.2.2.2.1)))) else ((impl_isFault.f a0_0 a0_1 a0_2 a0_3 l0_4 l0_5).bind fun t231 => (some t231))) else (some false)) = some r := H
 have A2 := aM A20
 clear A20
 by_cases c3 : t230 = true
 ·subst c3
  have H1 : (if a0_1 = 0 then ((impl_shape.f k a0_0).bind fun bt232 => ((impl_in.f (l0_4.length : Int) bt232.1 bt232.2.1).bind fun t240 => (if t240 = true then ((impl_in.f (l0_5.length : Int) bt232.2.2.1 bt232.2.2.2.1).bind fun t241 => (if t241 = true then ((impl_allWords.f l0_4).bind fun t242 => (impl_RespOk.j0 k bt232.2.2.2.2.1 bt232.2.2.2.2.2 (!t242) a0_0 a0_1 a0_2 a0_3 l0_4 l0_5 bt232.2.2.1 bt232.2.2.2.1)) else (impl_RespOk.j0 k bt232.2.2.2.2.1 bt232.2.2.2.2.2 true a0_0 a0_1 a0_2 a0_3 l0_4 l0_5 bt232.2.2.1 bt232.2.2.2.1))) else (impl_RespOk.j0 k bt232.2.2.2.2.1 bt232.2.2.2.2.2 true a0_0 a0_1 a0_2 a0_3 l0_4 l0_5 bt232.2.2.1 bt232.2.2.2.1)))) else ((impl_isFault.f a0_0 a0_1 a0_2 a0_3 l0_4 l0_5).bind fun t231 => (some t231))) = some r := by rw [if_pos rfl] at H; exact H
  clear H
  have H := H1
  clear H1
  by_cases c4 : a0_1 = 0
  ·rw [if_pos c4] at H
   have c4b0 : (a0_1 == 0) = true := beq_iff_eq.mpr c4
   have c4b1 : (a0_1 != 0) = false := bne_eq_false_iff_eq.mpr c4
   clear c4
   replace H := Option.bind_eq_some_iff.mp H
   obtain ⟨⟨t232, t233, t234, t235, t236, t237⟩, A50, H⟩ := H
   replace H : ((impl_in.f (l0_4.length : Int) t232 t233).bind fun t240 => (if t240 = true then ((impl_in.f (l0_5.length : Int) t234 t235).bind fun t241 => (if t241 = true then ((impl_allWords.f l0_4).bind fun t242 => (impl_RespOk.j0 k t236 t237 (!t242) a0_0 a0_1 a0_2 a0_3 l0_4 l0_5 t234 t235)) else (impl_RespOk.j0 k t236 t237 true a0_0 a0_1 a0_2 a0_3 l0_4 l0_5 t234 t235))) else (impl_RespOk.j0 k t236 t237 true a0_0 a0_1 a0_2 a0_3 l0_4 l0_5 t234 t235))) = some r := H
   have A5 := aM A50
   clear A50
   have HC6 := aM H
   clear H
   go_enter Try.func23, Try.ntmps23
   go_upto_region 6 with (first | ((with_reducible refine gate_dst (N := 1) rfl ?_); (try (refine gate_guard (by rfl) ?_; dsimp only)); refine box_event ?hg (N := 1) ?hd (cs := #[.int .i64 a0_0, .int .i64 a0_1, .int .i64 a0_2, .int .i64 a0_3, .slice A0_4 l0_4.length c0_4, .slice A0_5 l0_5.length c0_5]) (t := 29) ?hr ?_; (case hd => rfl); (case hg => rfl); (case hr => first | (go_simp; done) | (go_simp; rfl)); intro gb229 hg w7 hbox hb; have _ := aM (below_step (bS HB.out) hb); have _ := aM (hbox); have _ := aM (leG hg (bS HB.out)); have _ := aM (leG hg (bS HB.out)); clear HB; rename_i HB BK229 GW229 GE229; clear hb hbox hg; obtain ⟨hcz8_0, hfz8_0, hcz8_1, hfz8_1, hcz8_2, hfz8_2, hcz8_3, hfz8_3, hcz8_4, hfz8_4, hcz8_5, hfz8_5⟩ := bk6 BK229.out) | ((with_reducible refine gate_callee (f := 50) rfl ?_); refine gL (some 9) rfl rfl Try.func50 (by kernel_rfl) rfl #[.int .i64 a0_0] rfl ?_; (with_reducible refine (impl_isKind.calls a0_0 true _ A2.out).mono ?_); rintro e w' ⟨rfl, ⟨nd, rfl⟩⟩; refine ⟨_, rfl, ?_⟩; (try (rw [drewN_self w7]; generalize hq_ : World.drewN w7 _ = w7; have n0_ : Aside0 (w7.heap[gb229]? = some (.cells #[.int .i64 a0_0, .int .i64 a0_1, .int .i64 a0_2, .int .i64 a0_3, .slice A0_4 l0_4.length c0_4, .slice A0_5 l0_5.length c0_5] 29 (0, 0))) := ⟨by rw [← hq_]; exact (kA BK229.out)⟩; have n1_ : Aside0 (Below w.heap.size w w7) := ⟨by rw [← hq_]; exact (bS HB.out)⟩; clear BK229 HB hq_; have BK229 := n0_; have HB := n1_; clear n0_ n1_; have hcugb229_0 : w7.cell? ⟨gb229, 0, none⟩ = some (.int .i64 a0_0) := (blk_cell BK229.out 0).trans rfl; have hfugb229_0 := blk_frozen BK229.out 0; have hcugb229_1 : w7.cell? ⟨gb229, 1, none⟩ = some (.int .i64 a0_1) := (blk_cell BK229.out 1).trans rfl; have hfugb229_1 := blk_frozen BK229.out 1; have hcugb229_2 : w7.cell? ⟨gb229, 2, none⟩ = some (.int .i64 a0_2) := (blk_cell BK229.out 2).trans rfl; have hfugb229_2 := blk_frozen BK229.out 2; have hcugb229_3 : w7.cell? ⟨gb229, 3, none⟩ = some (.int .i64 a0_3) := (blk_cell BK229.out 3).trans rfl; have hfugb229_3 := blk_frozen BK229.out 3; have hcugb229_4 : w7.cell? ⟨gb229, 4, none⟩ = some (.slice A0_4 l0_4.length c0_4) := (blk_cell BK229.out 4).trans rfl; have hfugb229_4 := blk_frozen BK229.out 4; have hcugb229_5 : w7.cell? ⟨gb229, 5, none⟩ = some (.slice A0_5 l0_5.length c0_5) := (blk_cell BK229.out 5).trans rfl; have hfugb229_5 := blk_frozen BK229.out 5))) | ((with_reducible refine gate_callee (f := 61) rfl ?_); refine gL (some 19) rfl rfl Try.func61 (by kernel_rfl) rfl #[.int .i64 a0_0] rfl ?_; (with_reducible refine (impl_shape.calls k a0_0 t232 t233 t234 t235 t236 t237 _ A5.out).mono ?_); rintro e w9 ⟨rfl, hb⟩; refine ⟨_, rfl, ?_⟩; have _ := aM (kB BK229.out hb); have _ := aM (below_step (bS HB.out) hb); clear BK229 HB; rename_i BK229 HB; (try clear hb)) | ((with_reducible refine gate_dst (N := 3) rfl ?_); (try (refine gate_guard (by rfl) ?_; dsimp only)); refine box_event ?hg (N := 3) ?hd (cs := #[.int .i64 0, .int .i64 0]) (t := 81) ?hr ?_; (case hd => rfl); (case hg => rfl); (case hr => first | (go_simp; done) | (go_simp; rfl)); intro gb238 hg w10 hbox hb; have _ := aM (kB BK229.out hb); have _ := aM (below_step (bS HB.out) hb); have _ := aM (hbox); have _ := aM (leG hg (bS HB.out)); have _ := aM (leG hg (bS HB.out)); have _ := aM (neL hg (kA BK229.out)); have _ := aM (neG hg (kA BK229.out)); clear BK229 HB; rename_i BK229 HB BK238 GW238 GE238 NB229_238 NB238_229; clear hb hbox hg) | ((with_reducible refine gate_dst (N := 4) rfl ?_); (try (refine gate_guard (by rfl) ?_; dsimp only)); refine box_event ?hg (N := 4) ?hd (cs := #[.int .i64 0, .int .i64 0]) (t := 81) ?hr ?_; (case hd => rfl); (case hg => rfl); (case hr => first | (go_simp; done) | (go_simp; rfl)); intro gb239 hg w11 hbox hb; have _ := aM (kB BK229.out hb); have _ := aM (kB BK238.out hb); have _ := aM (below_step (bS HB.out) hb); have _ := aM (hbox); have _ := aM (leG hg (bS HB.out)); have _ := aM (leG hg (bS HB.out)); have _ := aM (neL hg (kA BK229.out)); have _ := aM (neG hg (kA BK229.out)); have _ := aM (neL hg (kA BK238.out)); have _ := aM (neG hg (kA BK238.out)); clear BK229 BK238 HB; rename_i BK229 BK238 HB BK239 GW239 GE239 NB229_239 NB239_229 NB238_239 NB239_238; clear hb hbox hg; have hnb12 := NB238_229.out; have hnc12 := NB229_238.out; have hnb13 := NB238_239.out; have hnc13 := NB239_238.out; obtain ⟨hcz14_0, hfz14_0, hcz14_1, hfz14_1⟩ := bk2 BK238.out; have hnb15 := NB239_229.out; have hnc15 := NB229_239.out; obtain ⟨hcz16_0, hfz16_0, hcz16_1, hfz16_1⟩ := bk2 BK239.out))
   (try simp only [Act.put, List.setIfInBounds_toArray, List.set_cons_zero, List.set_cons_succ])
   go_cut [49] (fun v49 wc => ∃ (kq : Nat) (x49_5 : Bool), v49 = .bool x49_5 ∧ Aside0 (impl_RespOk.j0 kq t236 t237 x49_5 a0_0 a0_1 a0_2 a0_3 l0_4 l0_5 t234 t235 = some r) ∧ Aside0 (kq ≤ k) ∧ Aside0 (wc.heap[gb229]? = some (.cells #[.int .i64 a0_0, .int .i64 a0_1, .int .i64 a0_2, .int .i64 a0_3, (.slice A0_4 l0_4.length c0_4), (.slice A0_5 l0_5.length c0_5)] 29 (0, 0))) ∧ Aside0 (wc.heap[gb238]? = some (.cells #[.int .i64 t232, .int .i64 t233] 81 (0, 0))) ∧ Aside0 (wc.heap[gb239]? = some (.cells #[.int .i64 t234, .int .i64 t235] 81 (0, 0))) ∧ Aside0 (Below w.heap.size w wc))
   case first =>
    have H := HC6.out
    clear HC6
    replace H := Option.bind_eq_some_iff.mp H
    obtain ⟨t240, A170, H⟩ := H
    replace H : (if t240 = true then ((impl_in.f (l0_5.length : Int) t234 t235).bind fun t241 => (if t241 = true then ((impl_allWords.f l0_4).bind fun t242 => (impl_RespOk.j0 k t236 t237 (!t242) a0_0 a0_1 a0_2 a0_3 l0_4 l0_5 t234 t235)) else (impl_RespOk.j0 k t236 t237 true a0_0 a0_1 a0_2 a0_3 l0_4 l0_5 t234 t235))) else (impl_RespOk.j0 k t236 t237 true a0_0 a0_1 a0_2 a0_3 l0_4 l0_5 t234 t235)) = some r := H
    have A17 := aM A170
    clear A170
    by_cases c18 : t240 = true
    ·subst c18
     have H1 : ((impl_in.f (l0_5.length : Int) t234 t235).bind fun t241 => (if t241 = true then ((impl_allWords.f l0_4).bind fun t242 => (impl_RespOk.j0 k t236 t237 (!t242) a0_0 a0_1 a0_2 a0_3 l0_4 l0_5 t234 t235)) else (impl_RespOk.j0 k t236 t237 true a0_0 a0_1 a0_2 a0_3 l0_4 l0_5 t234 t235))) = some r := by rw [if_pos rfl] at H; exact H
     clear H
     have H := H1
     clear H1
     replace H := Option.bind_eq_some_iff.mp H
     obtain ⟨t241, A190, H⟩ := H
     replace H : (if t241 = true then ((impl_allWords.f l0_4).bind fun t242 => (impl_RespOk.j0 k t236 t237 (!t242) a0_0 a0_1 a0_2 a0_3 l0_4 l0_5 t234 t235)) else (impl_RespOk.j0 k t236 t237 true a0_0 a0_1 a0_2 a0_3 l0_4 l0_5 t234 t235)) = some r := H
     have A19 := aM A190
     clear A190
     by_cases c20 : t241 = true
     ·subst c20
      have H1 : ((impl_allWords.f l0_4).bind fun t242 => (impl_RespOk.j0 k t236 t237 (!t242) a0_0 a0_1 a0_2 a0_3 l0_4 l0_5 t234 t235)) = some r := by rw [if_pos rfl] at H; exact H
      clear H
      have H := H1
      clear H1
      replace H := Option.bind_eq_some_iff.mp H
      obtain ⟨t242, A210, H⟩ := H
      replace H : (impl_RespOk.j0 k t236 t237 (!t242) a0_0 a0_1 a0_2 a0_3 l0_4 l0_5 t234 t235) = some r := H
      have A21 := aM A210
      clear A210
      have H' := aM H
      clear H
      have hnb22 := NB229_238.out
      have hnc22 := NB238_229.out
      have hnb23 := NB229_239.out
      have hnc23 := NB239_229.out
      obtain ⟨hcz24_0, hfz24_0, hcz24_1, hfz24_1, hcz24_2, hfz24_2, hcz24_3, hfz24_3, hcz24_4, hfz24_4, hcz24_5, hfz24_5⟩ := bk6 BK229.out
      have hnb25 := NB238_239.out
      have hnc25 := NB239_238.out
      obtain ⟨hcz26_0, hfz26_0, hcz26_1, hfz26_1⟩ := bk2 BK238.out
      go_wp2_with (first | ((with_reducible refine gate_callee (f := 62) rfl ?_); refine gL (some 31) rfl rfl Try.func62 (by kernel_rfl) rfl #[.int .i64 (l0_4.length : Int), .int .i64 t232, .int .i64 t233] rfl ?_; (with_reducible refine (impl_in.calls (l0_4.length : Int) t232 t233 true _ A17.out).mono ?_); rintro e w' ⟨rfl, ⟨nd, rfl⟩⟩; refine ⟨_, rfl, ?_⟩; obtain ⟨hcz27_0, hfz27_0, hcz27_1, hfz27_1⟩ := bk2 BK239.out) | (go_at_call 62; (with_reducible refine (impl_in.calls (l0_5.length : Int) t234 t235 true _ A19.out).mono ?_); rintro e w' ⟨rfl, ⟨nd, rfl⟩⟩) | (go_at_call 63; (with_reducible refine (impl_allWords.calls _ _ l0_4 t242 _ ?side1 ?side2 A21.out).mono ?_); (case side1 => exact Kd.C_below HR0_4.out (bS HB.out)); (case side2 => exact HC0_4.out); rintro e w' ⟨rfl, ⟨nd, rfl⟩⟩))
      go_meet
      case rel => exact ⟨_, (!t242), (by first | rfl | (simp; done) | (simp [*]; done)), H', ⟨by first | omega | exact Nat.le_refl _⟩, ⟨kX BK229.out⟩, ⟨kX BK238.out⟩, ⟨kX BK239.out⟩, ⟨bS HB.out⟩⟩
     ·replace c20 := Bool.eq_false_iff.mpr c20
      subst c20
      have H1 : (impl_RespOk.j0 k t236 t237 true a0_0 a0_1 a0_2 a0_3 l0_4 l0_5 t234 t235) = some r := by rw [if_neg (show ¬ (false = true) by decide)] at H; exact H
      clear H
      have H := H1
      clear H1
      have H' := aM H
      clear H
      have hnb28 := NB229_238.out
      have hnc28 := NB238_229.out
      have hnb29 := NB229_239.out
      have hnc29 := NB239_229.out
      obtain ⟨hcz30_0, hfz30_0, hcz30_1, hfz30_1, hcz30_2, hfz30_2, hcz30_3, hfz30_3, hcz30_4, hfz30_4, hcz30_5, hfz30_5⟩ := bk6 BK229.out
      have hnb31 := NB238_239.out
      have hnc31 := NB239_238.out
      obtain ⟨hcz32_0, hfz32_0, hcz32_1, hfz32_1⟩ := bk2 BK238.out
      go_wp2_with (first | ((with_reducible refine gate_callee (f := 62) rfl ?_); refine gL (some 31) rfl rfl Try.func62 (by kernel_rfl) rfl #[.int .i64 (l0_4.length : Int), .int .i64 t232, .int .i64 t233] rfl ?_; (with_reducible refine (impl_in.calls (l0_4.length : Int) t232 t233 true _ A17.out).mono ?_); rintro e w' ⟨rfl, ⟨nd, rfl⟩⟩; refine ⟨_, rfl, ?_⟩; obtain ⟨hcz33_0, hfz33_0, hcz33_1, hfz33_1⟩ := bk2 BK239.out) | (go_at_call 62; (with_reducible refine (impl_in.calls (l0_5.length : Int) t234 t235 false _ A19.out).mono ?_); rintro e w' ⟨rfl, ⟨nd, rfl⟩⟩))
      go_meet
      case rel => exact ⟨_, (true), (by first | rfl | (simp; done) | (simp [*]; done)), H', ⟨by first | omega | exact Nat.le_refl _⟩, ⟨kX BK229.out⟩, ⟨kX BK238.out⟩, ⟨kX BK239.out⟩, ⟨bS HB.out⟩⟩
    ·replace c18 := Bool.eq_false_iff.mpr c18
     subst c18
     have H1 : (impl_RespOk.j0 k t236 t237 true a0_0 a0_1 a0_2 a0_3 l0_4 l0_5 t234 t235) = some r := by rw [if_neg (show ¬ (false = true) by decide)] at H; exact H
     clear H
     have H := H1
     clear H1
     have H' := aM H
     clear H
     have hnb34 := NB229_238.out
     have hnc34 := NB238_229.out
     have hnb35 := NB229_239.out
     have hnc35 := NB239_229.out
     obtain ⟨hcz36_0, hfz36_0, hcz36_1, hfz36_1, hcz36_2, hfz36_2, hcz36_3, hfz36_3, hcz36_4, hfz36_4, hcz36_5, hfz36_5⟩ := bk6 BK229.out
     have hnb37 := NB238_239.out
     have hnc37 := NB239_238.out
     obtain ⟨hcz38_0, hfz38_0, hcz38_1, hfz38_1⟩ := bk2 BK238.out
     go_wp2_with (first | ((with_reducible refine gate_callee (f := 62) rfl ?_); refine gL (some 31) rfl rfl Try.func62 (by kernel_rfl) rfl #[.int .i64 (l0_4.length : Int), .int .i64 t232, .int .i64 t233] rfl ?_; (with_reducible refine (impl_in.calls (l0_4.length : Int) t232 t233 false _ A17.out).mono ?_); rintro e w' ⟨rfl, ⟨nd, rfl⟩⟩; refine ⟨_, rfl, ?_⟩))
     go_meet
     case rel => exact ⟨_, (true), (by first | rfl | (simp; done) | (simp [*]; done)), H', ⟨by first | omega | exact Nat.le_refl _⟩, ⟨kX BK229.out⟩, ⟨kX BK238.out⟩, ⟨kX BK239.out⟩, ⟨bS HB.out⟩⟩
   case rest =>
    clear HC6
    try clear c3
    try clear c4
    try clear c4b0
    try clear c4b1
    try clear hcz14_0
    try clear hcz14_1
    try clear hcz16_0
    try clear hcz16_1
    try clear hcz8_0
    try clear hcz8_1
    try clear hcz8_2
    try clear hcz8_3
    try clear hcz8_4
    try clear hcz8_5
    try clear hfz14_0
    try clear hfz14_1
    try clear hfz16_0
    try clear hfz16_1
    try clear hfz8_0
    try clear hfz8_1
    try clear hfz8_2
    try clear hfz8_3
    try clear hfz8_4
    try clear hfz8_5
    obtain ⟨kq, x49_5, rfl, HA, HJ5, BK229, BK238, BK239, HB⟩ := hcut
    cases kq with
    | zero => exact absurd HA.out (by simp [impl_RespOk.j0])
    | succ kj5 =>
     have H := HA.out
     clear HA
     simp only [impl_RespOk.j0] at H
     by_cases c39 : x49_5 = true
     ·subst c39
      have H1 : (some false) = some r := by rw [if_pos rfl] at H; exact H
      clear H
      have H := H1
      clear H1
      obtain rfl := Option.some.inj H
      go_wp2
      go_ret
      exact ⟨by first | rfl | (simp [errW_none, errW_some] <;> rfl) | (simp [*, errW_none, errW_some] <;> rfl), bS HB.out⟩
     ·replace c39 := Bool.eq_false_iff.mpr c39
      subst c39
      have H1 : (if t235 > 1 then (if ((l0_5.length : Int) % 8) = 0 then (if t236 = 0 then (if a0_3 = 0 then (if t236 > 0 then ((impl_in.f a0_3 1 t236).bind fun t243 => (if t243 = true then (if t237 = true then ((impl_isWord.f a0_2).bind fun t244 => (if t244 = true then (some true) else (some (a0_2 == 0)))) else (some (a0_2 == 0))) else (some false))) else (if t237 = true then ((impl_isWord.f a0_2).bind fun t245 => (if t245 = true then (some true) else (some (a0_2 == 0)))) else (some (a0_2 == 0)))) else (some false)) else (if t236 > 0 then ((impl_in.f a0_3 1 t236).bind fun t246 => (if t246 = true then (if t237 = true then ((impl_isWord.f a0_2).bind fun t247 => (if t247 = true then (some true) else (some (a0_2 == 0)))) else (some (a0_2 == 0))) else (some false))) else (if t237 = true then ((impl_isWord.f a0_2).bind fun t248 => (if t248 = true then (some true) else (some (a0_2 == 0)))) else (some (a0_2 == 0))))) else (some false)) else (if t236 = 0 then (if a0_3 = 0 then (if t236 > 0 then ((impl_in.f a0_3 1 t236).bind fun t249 => (if t249 = true then (if t237 = true then ((impl_isWord.f a0_2).bind fun t250 => (if t250 = true then (some true) else (some (a0_2 == 0)))) else (some (a0_2 == 0))) else (some false))) else (if t237 = true then ((impl_isWord.f a0_2).bind fun t251 => (if t251 = true then (some true) else (some (a0_2 == 0)))) else (some (a0_2 == 0)))) else (some false)) else (if t236 > 0 then ((impl_in.f a0_3 1 t236).bind fun t252 => (if t252 = true then (if t237 = true then ((impl_isWord.f a0_2).bind fun t253 => (if t253 = true then (some true) else (some (a0_2 == 0)))) else (some (a0_2 == 0))) else (some false))) else (if t237 = true then ((impl_isWord.f a0_2).bind fun t254 => (if t254 = true then (some true) else (some (a0_2 == 0)))) else (some (a0_2 == 0)))))) = some r := by rw [if_neg (show ¬ (false = true) by decide)] at H; exact H
      clear H
      have H := H1
      clear H1
      by_cases c40 : t235 > 1
      ·rw [if_pos c40] at H
       have c40b0 : decide (1 < t235) = true := decide_eq_true c40
       clear c40
       by_cases c41 : ((l0_5.length : Int) % 8) = 0
       ·rw [if_pos c41] at H
        have c41b0 : (((l0_5.length : Int) % 8) == 0) = true := beq_iff_eq.mpr c41
        have c41b1 : (((l0_5.length : Int) % 8) != 0) = false := bne_eq_false_iff_eq.mpr c41
        clear c41
        by_cases c42 : t236 = 0
        ·rw [if_pos c42] at H
         have c42b0 : (t236 == 0) = true := beq_iff_eq.mpr c42
         have c42b1 : (t236 != 0) = false := bne_eq_false_iff_eq.mpr c42
         clear c42
         by_cases c43 : a0_3 = 0
         ·rw [if_pos c43] at H
          have c43b0 : (a0_3 == 0) = true := beq_iff_eq.mpr c43
          have c43b1 : (a0_3 != 0) = false := bne_eq_false_iff_eq.mpr c43
          clear c43
          by_cases c44 : t236 > 0
          ·rw [if_pos c44] at H
           have c44b0 : decide (0 < t236) = true := decide_eq_true c44
           clear c44
           replace H := Option.bind_eq_some_iff.mp H
           obtain ⟨t243, A450, H⟩ := H
           replace H : (if t243 = true then (if t237 = true then ((impl_isWord.f a0_2).bind fun t244 => (if t244 = true then (some true) else (some (a0_2 == 0)))) else (some (a0_2 == 0))) else (some false)) = some r := H
           have A45 := aM A450
           clear A450
           by_cases c46 : t243 = true
           ·subst c46
            have H1 : (if t237 = true then ((impl_isWord.f a0_2).bind fun t244 => (if t244 = true then (some true) else (some (a0_2 == 0)))) else (some (a0_2 == 0))) = some r := by rw [if_pos rfl] at H; exact H
            clear H
            have H := H1
            clear H1
            by_cases c47 : t237 = true
            ·subst c47
             have H1 : ((impl_isWord.f a0_2).bind fun t244 => (if t244 = true then (some true) else (some (a0_2 == 0)))) = some r := by rw [if_pos rfl] at H; exact H
             clear H
             have H := H1
             clear H1
             replace H := Option.bind_eq_some_iff.mp H
             obtain ⟨t244, A480, H⟩ := H
             replace H : (if t244 = true then (some true) else (some (a0_2 == 0))) = some r := H
             have A48 := aM A480
             clear A480
             by_cases c49 : t244 = true
             ·subst c49
              have H1 : (some true) = some r := by rw [if_pos rfl] at H; exact H
              clear H
              have H := H1
              clear H1
              obtain rfl := Option.some.inj H
              have hnb50 := NB239_229.out
              have hnc50 := NB229_239.out
              have hnb51 := NB239_238.out
              have hnc51 := NB238_239.out
              obtain ⟨hcz52_0, hfz52_0, hcz52_1, hfz52_1⟩ := bk2 BK239.out
              have hnb53 := NB229_238.out
              have hnc53 := NB238_229.out
              obtain ⟨hcz54_0, hfz54_0, hcz54_1, hfz54_1, hcz54_2, hfz54_2, hcz54_3, hfz54_3, hcz54_4, hfz54_4, hcz54_5, hfz54_5⟩ := bk6 BK229.out
              go_wp2_with (first | (go_at_call 62; (with_reducible refine (impl_in.calls a0_3 1 t236 true _ A45.out).mono ?_); rintro e w' ⟨rfl, ⟨nd, rfl⟩⟩) | (go_at_call 64; (with_reducible refine (impl_isWord.calls a0_2 true _ A48.out).mono ?_); rintro e w' ⟨rfl, ⟨nd, rfl⟩⟩))
              go_ret
              exact ⟨by first | rfl | (simp [errW_none, errW_some] <;> rfl) | (simp [*, errW_none, errW_some] <;> rfl), bS HB.out⟩
             ·replace c49 := Bool.eq_false_iff.mpr c49
              subst c49
              have H1 : (some (a0_2 == 0)) = some r := by rw [if_neg (show ¬ (false = true) by decide)] at H; exact H
              clear H
              have H := H1
              clear H1
              obtain rfl := Option.some.inj H
              have hnb55 := NB239_229.out
              have hnc55 := NB229_239.out
              have hnb56 := NB239_238.out
              have hnc56 := NB238_239.out
              obtain ⟨hcz57_0, hfz57_0, hcz57_1, hfz57_1⟩ := bk2 BK239.out
              have hnb58 := NB229_238.out
              have hnc58 := NB238_229.out
              obtain ⟨hcz59_0, hfz59_0, hcz59_1, hfz59_1, hcz59_2, hfz59_2, hcz59_3, hfz59_3, hcz59_4, hfz59_4, hcz59_5, hfz59_5⟩ := bk6 BK229.out
              go_wp2_with (first | (go_at_call 62; (with_reducible refine (impl_in.calls a0_3 1 t236 true _ A45.out).mono ?_); rintro e w' ⟨rfl, ⟨nd, rfl⟩⟩) | (go_at_call 64; (with_reducible refine (impl_isWord.calls a0_2 false _ A48.out).mono ?_); rintro e w' ⟨rfl, ⟨nd, rfl⟩⟩))
              go_ret
              exact ⟨by first | rfl | (simp [errW_none, errW_some] <;> rfl) | (simp [*, errW_none, errW_some] <;> rfl), bS HB.out⟩
            ·replace c47 := Bool.eq_false_iff.mpr c47
             subst c47
             have H1 : (some (a0_2 == 0)) = some r := by rw [if_neg (show ¬ (false = true) by decide)] at H; exact H
             clear H
             have H := H1
             clear H1
             obtain rfl := Option.some.inj H
             have hnb60 := NB239_229.out
             have hnc60 := NB229_239.out
             have hnb61 := NB239_238.out
             have hnc61 := NB238_239.out
             obtain ⟨hcz62_0, hfz62_0, hcz62_1, hfz62_1⟩ := bk2 BK239.out
             have hnb63 := NB229_238.out
             have hnc63 := NB238_229.out
             obtain ⟨hcz64_0, hfz64_0, hcz64_1, hfz64_1, hcz64_2, hfz64_2, hcz64_3, hfz64_3, hcz64_4, hfz64_4, hcz64_5, hfz64_5⟩ := bk6 BK229.out
             go_wp2_with (first | (go_at_call 62; (with_reducible refine (impl_in.calls a0_3 1 t236 true _ A45.out).mono ?_); rintro e w' ⟨rfl, ⟨nd, rfl⟩⟩))
             go_ret
             exact ⟨by first | rfl | (simp [errW_none, errW_some] <;> rfl) | (simp [*, errW_none, errW_some] <;> rfl), bS HB.out⟩
           ·replace c46 := Bool.eq_false_iff.mpr c46
            subst c46
            have H1 : (some false) = some r := by rw [if_neg (show ¬ (false = true) by decide)] at H; exact H
            clear H
            have H := H1
            clear H1
            obtain rfl := Option.some.inj H
            have hnb65 := NB239_229.out
            have hnc65 := NB229_239.out
            have hnb66 := NB239_238.out
            have hnc66 := NB238_239.out
            obtain ⟨hcz67_0, hfz67_0, hcz67_1, hfz67_1⟩ := bk2 BK239.out
            have hnb68 := NB229_238.out
            have hnc68 := NB238_229.out
            obtain ⟨hcz69_0, hfz69_0, hcz69_1, hfz69_1, hcz69_2, hfz69_2, hcz69_3, hfz69_3, hcz69_4, hfz69_4, hcz69_5, hfz69_5⟩ := bk6 BK229.out
            go_wp2_with (first | (go_at_call 62; (with_reducible refine (impl_in.calls a0_3 1 t236 false _ A45.out).mono ?_); rintro e w' ⟨rfl, ⟨nd, rfl⟩⟩))
            go_ret
            exact ⟨by first | rfl | (simp [errW_none, errW_some] <;> rfl) | (simp [*, errW_none, errW_some] <;> rfl), bS HB.out⟩
          ·rw [if_neg c44] at H
           have c44b0 : decide (0 < t236) = false := decide_eq_false c44
           clear c44
           by_cases c70 : t237 = true
           ·subst c70
            have H1 : ((impl_isWord.f a0_2).bind fun t245 => (if t245 = true then (some true) else (some (a0_2 == 0)))) = some r := by rw [if_pos rfl] at H; exact H
            clear H
            have H := H1
            clear H1
            replace H := Option.bind_eq_some_iff.mp H
            obtain ⟨t245, A710, H⟩ := H
            replace H : (if t245 = true then (some true) else (some (a0_2 == 0))) = some r := H
            have A71 := aM A710
            clear A710
            by_cases c72 : t245 = true
            ·subst c72
             have H1 : (some true) = some r := by rw [if_pos rfl] at H; exact H
             clear H
             have H := H1
             clear H1
             obtain rfl := Option.some.inj H
             have hnb73 := NB239_229.out
             have hnc73 := NB229_239.out
             have hnb74 := NB239_238.out
             have hnc74 := NB238_239.out
             obtain ⟨hcz75_0, hfz75_0, hcz75_1, hfz75_1⟩ := bk2 BK239.out
             have hnb76 := NB229_238.out
             have hnc76 := NB238_229.out
             obtain ⟨hcz77_0, hfz77_0, hcz77_1, hfz77_1, hcz77_2, hfz77_2, hcz77_3, hfz77_3, hcz77_4, hfz77_4, hcz77_5, hfz77_5⟩ := bk6 BK229.out
             go_wp2_with (first | (go_at_call 64; (with_reducible refine (impl_isWord.calls a0_2 true _ A71.out).mono ?_); rintro e w' ⟨rfl, ⟨nd, rfl⟩⟩))
             go_ret
             exact ⟨by first | rfl | (simp [errW_none, errW_some] <;> rfl) | (simp [*, errW_none, errW_some] <;> rfl), bS HB.out⟩
            ·replace c72 := Bool.eq_false_iff.mpr c72
             subst c72
             have H1 : (some (a0_2 == 0)) = some r := by rw [if_neg (show ¬ (false = true) by decide)] at H; exact H
             clear H
             have H := H1
             clear H1
             obtain rfl := Option.some.inj H
             have hnb78 := NB239_229.out
             have hnc78 := NB229_239.out
             have hnb79 := NB239_238.out
             have hnc79 := NB238_239.out
             obtain ⟨hcz80_0, hfz80_0, hcz80_1, hfz80_1⟩ := bk2 BK239.out
             have hnb81 := NB229_238.out
             have hnc81 := NB238_229.out
             obtain ⟨hcz82_0, hfz82_0, hcz82_1, hfz82_1, hcz82_2, hfz82_2, hcz82_3, hfz82_3, hcz82_4, hfz82_4, hcz82_5, hfz82_5⟩ := bk6 BK229.out
             go_wp2_with (first | (go_at_call 64; (with_reducible refine (impl_isWord.calls a0_2 false _ A71.out).mono ?_); rintro e w' ⟨rfl, ⟨nd, rfl⟩⟩))
             go_ret
             exact ⟨by first | rfl | (simp [errW_none, errW_some] <;> rfl) | (simp [*, errW_none, errW_some] <;> rfl), bS HB.out⟩
           ·replace c70 := Bool.eq_false_iff.mpr c70
            subst c70
            have H1 : (some (a0_2 == 0)) = some r := by rw [if_neg (show ¬ (false = true) by decide)] at H; exact H
            clear H
            have H := H1
            clear H1
            obtain rfl := Option.some.inj H
            have hnb83 := NB239_229.out
            have hnc83 := NB229_239.out
            have hnb84 := NB239_238.out
            have hnc84 := NB238_239.out
            obtain ⟨hcz85_0, hfz85_0, hcz85_1, hfz85_1⟩ := bk2 BK239.out
            have hnb86 := NB229_238.out
            have hnc86 := NB238_229.out
            obtain ⟨hcz87_0, hfz87_0, hcz87_1, hfz87_1, hcz87_2, hfz87_2, hcz87_3, hfz87_3, hcz87_4, hfz87_4, hcz87_5, hfz87_5⟩ := bk6 BK229.out
            go_wp2
            go_ret
            exact ⟨by first | rfl | (simp [errW_none, errW_some] <;> rfl) | (simp [*, errW_none, errW_some] <;> rfl), bS HB.out⟩
         ·rw [if_neg c43] at H
          have c43b0 : (a0_3 == 0) = false := beq_eq_false_iff_ne.mpr c43
          have c43b1 : (a0_3 != 0) = true := bne_iff_ne.mpr c43
          obtain rfl := Option.some.inj H
          have hnb88 := NB239_229.out
          have hnc88 := NB229_239.out
          have hnb89 := NB239_238.out
          have hnc89 := NB238_239.out
          obtain ⟨hcz90_0, hfz90_0, hcz90_1, hfz90_1⟩ := bk2 BK239.out
          have hnb91 := NB229_238.out
          have hnc91 := NB238_229.out
          obtain ⟨hcz92_0, hfz92_0, hcz92_1, hfz92_1, hcz92_2, hfz92_2, hcz92_3, hfz92_3, hcz92_4, hfz92_4, hcz92_5, hfz92_5⟩ := bk6 BK229.out
          go_wp2
          go_ret
          exact ⟨by first | rfl | (simp [errW_none, errW_some] <;> rfl) | (simp [*, errW_none, errW_some] <;> rfl), bS HB.out⟩
        ·rw [if_neg c42] at H
         have c42b0 : (t236 == 0) = false := beq_eq_false_iff_ne.mpr c42
         have c42b1 : (t236 != 0) = true := bne_iff_ne.mpr c42
         by_cases c93 : t236 > 0
         ·rw [if_pos c93] at H
          have c93b0 : decide (0 < t236) = true := decide_eq_true c93
          clear c93
          replace H := Option.bind_eq_some_iff.mp H
          obtain ⟨t246, A940, H⟩ := H
          replace H : (if t246 = true then (if t237 = true then ((impl_isWord.f a0_2).bind fun t247 => (if t247 = true then (some true) else (some (a0_2 == 0)))) else (some (a0_2 == 0))) else (some false)) = some r := H
          have A94 := aM A940
          clear A940
          by_cases c95 : t246 = true
          ·subst c95
           have H1 : (if t237 = true then ((impl_isWord.f a0_2).bind fun t247 => (if t247 = true then (some true) else (some (a0_2 == 0)))) else (some (a0_2 == 0))) = some r := by rw [if_pos rfl] at H; exact H
           clear H
           have H := H1
           clear H1
           by_cases c96 : t237 = true
           ·subst c96
            have H1 : ((impl_isWord.f a0_2).bind fun t247 => (if t247 = true then (some true) else (some (a0_2 == 0)))) = some r := by rw [if_pos rfl] at H; exact H
            clear H
            have H := H1
            clear H1
            replace H := Option.bind_eq_some_iff.mp H
            obtain ⟨t247, A970, H⟩ := H
            replace H : (if t247 = true then (some true) else (some (a0_2 == 0))) = some r := H
            have A97 := aM A970
            clear A970
            by_cases c98 : t247 = true
            ·subst c98
             have H1 : (some true) = some r := by rw [if_pos rfl] at H; exact H
             clear H
             have H := H1
             clear H1
             obtain rfl := Option.some.inj H
             have hnb99 := NB239_229.out
             have hnc99 := NB229_239.out
             have hnb100 := NB239_238.out
             have hnc100 := NB238_239.out
             obtain ⟨hcz101_0, hfz101_0, hcz101_1, hfz101_1⟩ := bk2 BK239.out
             have hnb102 := NB229_238.out
             have hnc102 := NB238_229.out
             obtain ⟨hcz103_0, hfz103_0, hcz103_1, hfz103_1, hcz103_2, hfz103_2, hcz103_3, hfz103_3, hcz103_4, hfz103_4, hcz103_5, hfz103_5⟩ := bk6 BK229.out
             go_wp2_with (first | (go_at_call 62; (with_reducible refine (impl_in.calls a0_3 1 t236 true _ A94.out).mono ?_); rintro e w' ⟨rfl, ⟨nd, rfl⟩⟩) | (go_at_call 64; (with_reducible refine (impl_isWord.calls a0_2 true _ A97.out).mono ?_); rintro e w' ⟨rfl, ⟨nd, rfl⟩⟩))
             go_ret
             exact ⟨by first | rfl | (simp [errW_none, errW_some] <;> rfl) | (simp [*, errW_none, errW_some] <;> rfl), bS HB.out⟩
            ·replace c98 := Bool.eq_false_iff.mpr c98
             subst c98
             have H1 : (some (a0_2 == 0)) = some r := by rw [if_neg (show ¬ (false = true) by decide)] at H; exact H
             clear H
             have H := H1
             clear H1
             obtain rfl := Option.some.inj H
             have hnb104 := NB239_229.out
             have hnc104 := NB229_239.out
             have hnb105 := NB239_238.out
             have hnc105 := NB238_239.out
             obtain ⟨hcz106_0, hfz106_0, hcz106_1, hfz106_1⟩ := bk2 BK239.out
             have hnb107 := NB229_238.out
             have hnc107 := NB238_229.out
             obtain ⟨hcz108_0, hfz108_0, hcz108_1, hfz108_1, hcz108_2, hfz108_2, hcz108_3, hfz108_3, hcz108_4, hfz108_4, hcz108_5, hfz108_5⟩ := bk6 BK229.out
             go_wp2_with (first | (go_at_call 62; (with_reducible refine (impl_in.calls a0_3 1 t236 true _ A94.out).mono ?_); rintro e w' ⟨rfl, ⟨nd, rfl⟩⟩) | (go_at_call 64; (with_reducible refine (impl_isWord.calls a0_2 false _ A97.out).mono ?_); rintro e w' ⟨rfl, ⟨nd, rfl⟩⟩))
             go_ret
             exact ⟨by first | rfl | (simp [errW_none, errW_some] <;> rfl) | (simp [*, errW_none, errW_some] <;> rfl), bS HB.out⟩
           ·replace c96 := Bool.eq_false_iff.mpr c96
            subst c96
            have H1 : (some (a0_2 == 0)) = some r := by rw [if_neg (show ¬ (false = true) by decide)] at H; exact H
            clear H
            have H := H1
            clear H1
            obtain rfl := Option.some.inj H
            have hnb109 := NB239_229.out
            have hnc109 := NB229_239.out
            have hnb110 := NB239_238.out
            have hnc110 := NB238_239.out
            obtain ⟨hcz111_0, hfz111_0, hcz111_1, hfz111_1⟩ := bk2 BK239.out
            have hnb112 := NB229_238.out
            have hnc112 := NB238_229.out
            obtain ⟨hcz113_0, hfz113_0, hcz113_1, hfz113_1, hcz113_2, hfz113_2, hcz113_3, hfz113_3, hcz113_4, hfz113_4, hcz113_5, hfz113_5⟩ := bk6 BK229.out
            go_wp2_with (first | (go_at_call 62; (with_reducible refine (impl_in.calls a0_3 1 t236 true _ A94.out).mono ?_); rintro e w' ⟨rfl, ⟨nd, rfl⟩⟩))
            go_ret
            exact ⟨by first | rfl | (simp [errW_none, errW_some] <;> rfl) | (simp [*, errW_none, errW_some] <;> rfl), bS HB.out⟩
          ·replace c95 := Bool.eq_false_iff.mpr c95
           subst c95
           have H1 : (some false) = some r := by rw [if_neg (show ¬ (false = true) by decide)] at H; exact H
           clear H
           have H := H1
           clear H1
           obtain rfl := Option.some.inj H
           have hnb114 := NB239_229.out
           have hnc114 := NB229_239.out
           have hnb115 := NB239_238.out
           have hnc115 := NB238_239.out
           obtain ⟨hcz116_0, hfz116_0, hcz116_1, hfz116_1⟩ := bk2 BK239.out
           have hnb117 := NB229_238.out
           have hnc117 := NB238_229.out
           obtain ⟨hcz118_0, hfz118_0, hcz118_1, hfz118_1, hcz118_2, hfz118_2, hcz118_3, hfz118_3, hcz118_4, hfz118_4, hcz118_5, hfz118_5⟩ := bk6 BK229.out
           go_wp2_with (first | (go_at_call 62; (with_reducible refine (impl_in.calls a0_3 1 t236 false _ A94.out).mono ?_); rintro e w' ⟨rfl, ⟨nd, rfl⟩⟩))
           go_ret
           exact ⟨by first | rfl | (simp [errW_none, errW_some] <;> rfl) | (simp [*, errW_none, errW_some] <;> rfl), bS HB.out⟩
         ·rw [if_neg c93] at H
          have c93b0 : decide (0 < t236) = false := decide_eq_false c93
          clear c93
          by_cases c119 : t237 = true
          ·subst c119
           have H1 : ((impl_isWord.f a0_2).bind fun t248 => (if t248 = true then (some true) else (some (a0_2 == 0)))) = some r := by rw [if_pos rfl] at H; exact H
           clear H
           have H := H1
           clear H1
           replace H := Option.bind_eq_some_iff.mp H
           obtain ⟨t248, A1200, H⟩ := H
           replace H : (if t248 = true then (some true) else (some (a0_2 == 0))) = some r := H
           have A120 := aM A1200
           clear A1200
           by_cases c121 : t248 = true
           ·subst c121
            have H1 : (some true) = some r := by rw [if_pos rfl] at H; exact H
            clear H
            have H := H1
            clear H1
            obtain rfl := Option.some.inj H
            have hnb122 := NB239_229.out
            have hnc122 := NB229_239.out
            have hnb123 := NB239_238.out
            have hnc123 := NB238_239.out
            obtain ⟨hcz124_0, hfz124_0, hcz124_1, hfz124_1⟩ := bk2 BK239.out
            have hnb125 := NB229_238.out
            have hnc125 := NB238_229.out
            obtain ⟨hcz126_0, hfz126_0, hcz126_1, hfz126_1, hcz126_2, hfz126_2, hcz126_3, hfz126_3, hcz126_4, hfz126_4, hcz126_5, hfz126_5⟩ := bk6 BK229.out
            go_wp2_with (first | (go_at_call 64; (with_reducible refine (impl_isWord.calls a0_2 true _ A120.out).mono ?_); rintro e w' ⟨rfl, ⟨nd, rfl⟩⟩))
            go_ret
            exact ⟨by first | rfl | (simp [errW_none, errW_some] <;> rfl) | (simp [*, errW_none, errW_some] <;> rfl), bS HB.out⟩
           ·replace c121 := Bool.eq_false_iff.mpr c121
            subst c121
            have H1 : (some (a0_2 == 0)) = some r := by rw [if_neg (show ¬ (false = true) by decide)] at H; exact H
            clear H
            have H := H1
            clear H1
            obtain rfl := Option.some.inj H
            have hnb127 := NB239_229.out
            have hnc127 := NB229_239.out
            have hnb128 := NB239_238.out
            have hnc128 := NB238_239.out
            obtain ⟨hcz129_0, hfz129_0, hcz129_1, hfz129_1⟩ := bk2 BK239.out
            have hnb130 := NB229_238.out
            have hnc130 := NB238_229.out
            obtain ⟨hcz131_0, hfz131_0, hcz131_1, hfz131_1, hcz131_2, hfz131_2, hcz131_3, hfz131_3, hcz131_4, hfz131_4, hcz131_5, hfz131_5⟩ := bk6 BK229.out
            go_wp2_with (first | (go_at_call 64; (with_reducible refine (impl_isWord.calls a0_2 false _ A120.out).mono ?_); rintro e w' ⟨rfl, ⟨nd, rfl⟩⟩))
            go_ret
            exact ⟨by first | rfl | (simp [errW_none, errW_some] <;> rfl) | (simp [*, errW_none, errW_some] <;> rfl), bS HB.out⟩
          ·replace c119 := Bool.eq_false_iff.mpr c119
           subst c119
           have H1 : (some (a0_2 == 0)) = some r := by rw [if_neg (show ¬ (false = true) by decide)] at H; exact H
           clear H
           have H := H1
           clear H1
           obtain rfl := Option.some.inj H
           have hnb132 := NB239_229.out
           have hnc132 := NB229_239.out
           have hnb133 := NB239_238.out
           have hnc133 := NB238_239.out
           obtain ⟨hcz134_0, hfz134_0, hcz134_1, hfz134_1⟩ := bk2 BK239.out
           have hnb135 := NB229_238.out
           have hnc135 := NB238_229.out
           obtain ⟨hcz136_0, hfz136_0, hcz136_1, hfz136_1, hcz136_2, hfz136_2, hcz136_3, hfz136_3, hcz136_4, hfz136_4, hcz136_5, hfz136_5⟩ := bk6 BK229.out
           go_wp2
           go_ret
           exact ⟨by first | rfl | (simp [errW_none, errW_some] <;> rfl) | (simp [*, errW_none, errW_some] <;> rfl), bS HB.out⟩
       ·rw [if_neg c41] at H
        have c41b0 : (((l0_5.length : Int) % 8) == 0) = false := beq_eq_false_iff_ne.mpr c41
        have c41b1 : (((l0_5.length : Int) % 8) != 0) = true := bne_iff_ne.mpr c41
        obtain rfl := Option.some.inj H
        have hnb137 := NB239_229.out
        have hnc137 := NB229_239.out
        have hnb138 := NB239_238.out
        have hnc138 := NB238_239.out
        obtain ⟨hcz139_0, hfz139_0, hcz139_1, hfz139_1⟩ := bk2 BK239.out
        have hnb140 := NB229_238.out
        have hnc140 := NB238_229.out
        obtain ⟨hcz141_0, hfz141_0, hcz141_1, hfz141_1, hcz141_2, hfz141_2, hcz141_3, hfz141_3, hcz141_4, hfz141_4, hcz141_5, hfz141_5⟩ := bk6 BK229.out
        go_wp2
        go_ret
        exact ⟨by first | rfl | (simp [errW_none, errW_some] <;> rfl) | (simp [*, errW_none, errW_some] <;> rfl), bS HB.out⟩
      ·rw [if_neg c40] at H
       have c40b0 : decide (1 < t235) = false := decide_eq_false c40
       clear c40
       by_cases c142 : t236 = 0
       ·rw [if_pos c142] at H
        have c142b0 : (t236 == 0) = true := beq_iff_eq.mpr c142
        have c142b1 : (t236 != 0) = false := bne_eq_false_iff_eq.mpr c142
        clear c142
        by_cases c143 : a0_3 = 0
        ·rw [if_pos c143] at H
         have c143b0 : (a0_3 == 0) = true := beq_iff_eq.mpr c143
         have c143b1 : (a0_3 != 0) = false := bne_eq_false_iff_eq.mpr c143
         clear c143
         by_cases c144 : t236 > 0
         ·rw [if_pos c144] at H
          have c144b0 : decide (0 < t236) = true := decide_eq_true c144
          clear c144
          replace H := Option.bind_eq_some_iff.mp H
          obtain ⟨t249, A1450, H⟩ := H
          replace H : (if t249 = true then (if t237 = true then ((impl_isWord.f a0_2).bind fun t250 => (if t250 = true then (some true) else (some (a0_2 == 0)))) else (some (a0_2 == 0))) else (some false)) = some r := H
          have A145 := aM A1450
          clear A1450
          by_cases c146 : t249 = true
          ·subst c146
           have H1 : (if t237 = true then ((impl_isWord.f a0_2).bind fun t250 => (if t250 = true then (some true) else (some (a0_2 == 0)))) else (some (a0_2 == 0))) = some r := by rw [if_pos rfl] at H; exact H
           clear H
           have H := H1
           clear H1
           by_cases c147 : t237 = true
           ·subst c147
            have H1 : ((impl_isWord.f a0_2).bind fun t250 => (if t250 = true then (some true) else (some (a0_2 == 0)))) = some r := by rw [if_pos rfl] at H; exact H
            clear H
            have H := H1
            clear H1
            replace H := Option.bind_eq_some_iff.mp H
            obtain ⟨t250, A1480, H⟩ := H
            replace H : (if t250 = true then (some true) else (some (a0_2 == 0))) = some r := H
            have A148 := aM A1480
            clear A1480
            by_cases c149 : t250 = true
            ·subst c149
             have H1 : (some true) = some r := by rw [if_pos rfl] at H; exact H
             clear H
             have H := H1
             clear H1
             obtain rfl := Option.some.inj H
             have hnb150 := NB239_229.out
             have hnc150 := NB229_239.out
             have hnb151 := NB239_238.out
             have hnc151 := NB238_239.out
             obtain ⟨hcz152_0, hfz152_0, hcz152_1, hfz152_1⟩ := bk2 BK239.out
             have hnb153 := NB229_238.out
             have hnc153 := NB238_229.out
             obtain ⟨hcz154_0, hfz154_0, hcz154_1, hfz154_1, hcz154_2, hfz154_2, hcz154_3, hfz154_3, hcz154_4, hfz154_4, hcz154_5, hfz154_5⟩ := bk6 BK229.out
             go_wp2_with (first | (go_at_call 62; (with_reducible refine (impl_in.calls a0_3 1 t236 true _ A145.out).mono ?_); rintro e w' ⟨rfl, ⟨nd, rfl⟩⟩) | (go_at_call 64; (with_reducible refine (impl_isWord.calls a0_2 true _ A148.out).mono ?_); rintro e w' ⟨rfl, ⟨nd, rfl⟩⟩))
             go_ret
             exact ⟨by first | rfl | (simp [errW_none, errW_some] <;> rfl) | (simp [*, errW_none, errW_some] <;> rfl), bS HB.out⟩
            ·replace c149 := Bool.eq_false_iff.mpr c149
             subst c149
             have H1 : (some (a0_2 == 0)) = some r := by rw [if_neg (show ¬ (false = true) by decide)] at H; exact H
             clear H
             have H := H1
             clear H1
             obtain rfl := Option.some.inj H
             have hnb155 := NB239_229.out
             have hnc155 := NB229_239.out
             have hnb156 := NB239_238.out
             have hnc156 := NB238_239.out
             obtain ⟨hcz157_0, hfz157_0, hcz157_1, hfz157_1⟩ := bk2 BK239.out
             have hnb158 := NB229_238.out
             have hnc158 := NB238_229.out
             obtain ⟨hcz159_0, hfz159_0, hcz159_1, hfz159_1, hcz159_2, hfz159_2, hcz159_3, hfz159_3, hcz159_4, hfz159_4, hcz159_5, hfz159_5⟩ := bk6 BK229.out
             go_wp2_with (first | (go_at_call 62; (with_reducible refine (impl_in.calls a0_3 1 t236 true _ A145.out).mono ?_); rintro e w' ⟨rfl, ⟨nd, rfl⟩⟩) | (go_at_call 64; (with_reducible refine (impl_isWord.calls a0_2 false _ A148.out).mono ?_); rintro e w' ⟨rfl, ⟨nd, rfl⟩⟩))
             go_ret
             exact ⟨by first | rfl | (simp [errW_none, errW_some] <;> rfl) | (simp [*, errW_none, errW_some] <;> rfl), bS HB.out⟩
           ·replace c147 := Bool.eq_false_iff.mpr c147
            subst c147
            have H1 : (some (a0_2 == 0)) = some r := by rw [if_neg (show ¬ (false = true) by decide)] at H; exact H
            clear H
            have H := H1
            clear H1
            obtain rfl := Option.some.inj H
            have hnb160 := NB239_229.out
            have hnc160 := NB229_239.out
            have hnb161 := NB239_238.out
            have hnc161 := NB238_239.out
            obtain ⟨hcz162_0, hfz162_0, hcz162_1, hfz162_1⟩ := bk2 BK239.out
            have hnb163 := NB229_238.out
            have hnc163 := NB238_229.out
            obtain ⟨hcz164_0, hfz164_0, hcz164_1, hfz164_1, hcz164_2, hfz164_2, hcz164_3, hfz164_3, hcz164_4, hfz164_4, hcz164_5, hfz164_5⟩ := bk6 BK229.out
            go_wp2_with (first | (go_at_call 62; (with_reducible refine (impl_in.calls a0_3 1 t236 true _ A145.out).mono ?_); rintro e w' ⟨rfl, ⟨nd, rfl⟩⟩))
            go_ret
            exact ⟨by first | rfl | (simp [errW_none, errW_some] <;> rfl) | (simp [*, errW_none, errW_some] <;> rfl), bS HB.out⟩
          ·replace c146 := Bool.eq_false_iff.mpr c146
           subst c146
           have H1 : (some false) = some r := by rw [if_neg (show ¬ (false = true) by decide)] at H; exact H
           clear H
           have H := H1
           clear H1
           obtain rfl := Option.some.inj H
           have hnb165 := NB239_229.out
           have hnc165 := NB229_239.out
           have hnb166 := NB239_238.out
           have hnc166 := NB238_239.out
           obtain ⟨hcz167_0, hfz167_0, hcz167_1, hfz167_1⟩ := bk2 BK239.out
           have hnb168 := NB229_238.out
           have hnc168 := NB238_229.out
           obtain ⟨hcz169_0, hfz169_0, hcz169_1, hfz169_1, hcz169_2, hfz169_2, hcz169_3, hfz169_3, hcz169_4, hfz169_4, hcz169_5, hfz169_5⟩ := bk6 BK229.out
           go_wp2_with (first | (go_at_call 62; (with_reducible refine (impl_in.calls a0_3 1 t236 false _ A145.out).mono ?_); rintro e w' ⟨rfl, ⟨nd, rfl⟩⟩))
           go_ret
           exact ⟨by first | rfl | (simp [errW_none, errW_some] <;> rfl) | (simp [*, errW_none, errW_some] <;> rfl), bS HB.out⟩
         ·rw [if_neg c144] at H
          have c144b0 : decide (0 < t236) = false := decide_eq_false c144
          clear c144
          by_cases c170 : t237 = true
          ·subst c170
           have H1 : ((impl_isWord.f a0_2).bind fun t251 => (if t251 = true then (some true) else (some (a0_2 == 0)))) = some r := by rw [if_pos rfl] at H; exact H
           clear H
           have H := H1
           clear H1
           replace H := Option.bind_eq_some_iff.mp H
           obtain ⟨t251, A1710, H⟩ := H
           replace H : (if t251 = true then (some true) else (some (a0_2 == 0))) = some r := H
           have A171 := aM A1710
           clear A1710
           by_cases c172 : t251 = true
           ·subst c172
            have H1 : (some true) = some r := by rw [if_pos rfl] at H; exact H
            clear H
            have H := H1
            clear H1
            obtain rfl := Option.some.inj H
            have hnb173 := NB239_229.out
            have hnc173 := NB229_239.out
            have hnb174 := NB239_238.out
            have hnc174 := NB238_239.out
            obtain ⟨hcz175_0, hfz175_0, hcz175_1, hfz175_1⟩ := bk2 BK239.out
            have hnb176 := NB229_238.out
            have hnc176 := NB238_229.out
            obtain ⟨hcz177_0, hfz177_0, hcz177_1, hfz177_1, hcz177_2, hfz177_2, hcz177_3, hfz177_3, hcz177_4, hfz177_4, hcz177_5, hfz177_5⟩ := bk6 BK229.out
            go_wp2_with (first | (go_at_call 64; (with_reducible refine (impl_isWord.calls a0_2 true _ A171.out).mono ?_); rintro e w' ⟨rfl, ⟨nd, rfl⟩⟩))
            go_ret
            exact ⟨by first | rfl | (simp [errW_none, errW_some] <;> rfl) | (simp [*, errW_none, errW_some] <;> rfl), bS HB.out⟩
           ·replace c172 := Bool.eq_false_iff.mpr c172
            subst c172
            have H1 : (some (a0_2 == 0)) = some r := by rw [if_neg (show ¬ (false = true) by decide)] at H; exact H
            clear H
            have H := H1
            clear H1
            obtain rfl := Option.some.inj H
            have hnb178 := NB239_229.out
            have hnc178 := NB229_239.out
            have hnb179 := NB239_238.out
            have hnc179 := NB238_239.out
            obtain ⟨hcz180_0, hfz180_0, hcz180_1, hfz180_1⟩ := bk2 BK239.out
            have hnb181 := NB229_238.out
            have hnc181 := NB238_229.out
            obtain ⟨hcz182_0, hfz182_0, hcz182_1, hfz182_1, hcz182_2, hfz182_2, hcz182_3, hfz182_3, hcz182_4, hfz182_4, hcz182_5, hfz182_5⟩ := bk6 BK229.out
            go_wp2_with (first | (go_at_call 64; (with_reducible refine (impl_isWord.calls a0_2 false _ A171.out).mono ?_); rintro e w' ⟨rfl, ⟨nd, rfl⟩⟩))
            go_ret
            exact ⟨by first | rfl | (simp [errW_none, errW_some] <;> rfl) | (simp [*, errW_none, errW_some] <;> rfl), bS HB.out⟩
          ·replace c170 := Bool.eq_false_iff.mpr c170
           subst c170
           have H1 : (some (a0_2 == 0)) = some r := by rw [if_neg (show ¬ (false = true) by decide)] at H; exact H
           clear H
           have H := H1
           clear H1
           obtain rfl := Option.some.inj H
           have hnb183 := NB239_229.out
           have hnc183 := NB229_239.out
           have hnb184 := NB239_238.out
           have hnc184 := NB238_239.out
           obtain ⟨hcz185_0, hfz185_0, hcz185_1, hfz185_1⟩ := bk2 BK239.out
           have hnb186 := NB229_238.out
           have hnc186 := NB238_229.out
           obtain ⟨hcz187_0, hfz187_0, hcz187_1, hfz187_1, hcz187_2, hfz187_2, hcz187_3, hfz187_3, hcz187_4, hfz187_4, hcz187_5, hfz187_5⟩ := bk6 BK229.out
           go_wp2
           go_ret
           exact ⟨by first | rfl | (simp [errW_none, errW_some] <;> rfl) | (simp [*, errW_none, errW_some] <;> rfl), bS HB.out⟩
        ·rw [if_neg c143] at H
         have c143b0 : (a0_3 == 0) = false := beq_eq_false_iff_ne.mpr c143
         have c143b1 : (a0_3 != 0) = true := bne_iff_ne.mpr c143
         obtain rfl := Option.some.inj H
         have hnb188 := NB239_229.out
         have hnc188 := NB229_239.out
         have hnb189 := NB239_238.out
         have hnc189 := NB238_239.out
         obtain ⟨hcz190_0, hfz190_0, hcz190_1, hfz190_1⟩ := bk2 BK239.out
         have hnb191 := NB229_238.out
         have hnc191 := NB238_229.out
         obtain ⟨hcz192_0, hfz192_0, hcz192_1, hfz192_1, hcz192_2, hfz192_2, hcz192_3, hfz192_3, hcz192_4, hfz192_4, hcz192_5, hfz192_5⟩ := bk6 BK229.out
         go_wp2
         go_ret
         exact ⟨by first | rfl | (simp [errW_none, errW_some] <;> rfl) | (simp [*, errW_none, errW_some] <;> rfl), bS HB.out⟩
       ·rw [if_neg c142] at H
        have c142b0 : (t236 == 0) = false := beq_eq_false_iff_ne.mpr c142
        have c142b1 : (t236 != 0) = true := bne_iff_ne.mpr c142
        by_cases c193 : t236 > 0
        ·rw [if_pos c193] at H
         have c193b0 : decide (0 < t236) = true := decide_eq_true c193
         clear c193
         replace H := Option.bind_eq_some_iff.mp H
         obtain ⟨t252, A1940, H⟩ := H
         replace H : (if t252 = true then (if t237 = true then ((impl_isWord.f a0_2).bind fun t253 => (if t253 = true then (some true) else (some (a0_2 == 0)))) else (some (a0_2 == 0))) else (some false)) = some r := H
         have A194 := aM A1940
         clear A1940
         by_cases c195 : t252 = true
         ·subst c195
          have H1 : (if t237 = true then ((impl_isWord.f a0_2).bind fun t253 => (if t253 = true then (some true) else (some (a0_2 == 0)))) else (some (a0_2 == 0))) = some r := by rw [if_pos rfl] at H; exact H
          clear H
          have H := H1
          clear H1
          by_cases c196 : t237 = true
          ·subst c196
           have H1 : ((impl_isWord.f a0_2).bind fun t253 => (if t253 = true then (some true) else (some (a0_2 == 0)))) = some r := by rw [if_pos rfl] at H; exact H
           clear H
           have H := H1
           clear H1
           replace H := Option.bind_eq_some_iff.mp H
           obtain ⟨t253, A1970, H⟩ := H
           replace H : (if t253 = true then (some true) else (some (a0_2 == 0))) = some r := H
           have A197 := aM A1970
           clear A1970
           by_cases c198 : t253 = true
           ·subst c198
            have H1 : (some true) = some r := by rw [if_pos rfl] at H; exact H
            clear H
            have H := H1
            clear H1
            obtain rfl := Option.some.inj H
            have hnb199 := NB239_229.out
            have hnc199 := NB229_239.out
            have hnb200 := NB239_238.out
            have hnc200 := NB238_239.out
            obtain ⟨hcz201_0, hfz201_0, hcz201_1, hfz201_1⟩ := bk2 BK239.out
            have hnb202 := NB229_238.out
            have hnc202 := NB238_229.out
            obtain ⟨hcz203_0, hfz203_0, hcz203_1, hfz203_1, hcz203_2, hfz203_2, hcz203_3, hfz203_3, hcz203_4, hfz203_4, hcz203_5, hfz203_5⟩ := bk6 BK229.out
            go_wp2_with (first | (go_at_call 62; (with_reducible refine (impl_in.calls a0_3 1 t236 true _ A194.out).mono ?_); rintro e w' ⟨rfl, ⟨nd, rfl⟩⟩) | (go_at_call 64; (with_reducible refine (impl_isWord.calls a0_2 true _ A197.out).mono ?_); rintro e w' ⟨rfl, ⟨nd, rfl⟩⟩))
            go_ret
            exact ⟨by first | rfl | (simp [errW_none, errW_some] <;> rfl) | (simp [*, errW_none, errW_some] <;> rfl), bS HB.out⟩
           ·replace c198 := Bool.eq_false_iff.mpr c198
            subst c198
            have H1 : (some (a0_2 == 0)) = some r := by rw [if_neg (show ¬ (false = true) by decide)] at H; exact H
            clear H
            have H := H1
            clear H1
            obtain rfl := Option.some.inj H
            have hnb204 := NB239_229.out
            have hnc204 := NB229_239.out
            have hnb205 := NB239_238.out
            have hnc205 := NB238_239.out
            obtain ⟨hcz206_0, hfz206_0, hcz206_1, hfz206_1⟩ := bk2 BK239.out
            have hnb207 := NB229_238.out
            have hnc207 := NB238_229.out
            obtain ⟨hcz208_0, hfz208_0, hcz208_1, hfz208_1, hcz208_2, hfz208_2, hcz208_3, hfz208_3, hcz208_4, hfz208_4, hcz208_5, hfz208_5⟩ := bk6 BK229.out
            go_wp2_with (first | (go_at_call 62; (with_reducible refine (impl_in.calls a0_3 1 t236 true _ A194.out).mono ?_); rintro e w' ⟨rfl, ⟨nd, rfl⟩⟩) | (go_at_call 64; (with_reducible refine (impl_isWord.calls a0_2 false _ A197.out).mono ?_); rintro e w' ⟨rfl, ⟨nd, rfl⟩⟩))
            go_ret
            exact ⟨by first | rfl | (simp [errW_none, errW_some] <;> rfl) | (simp [*, errW_none, errW_some] <;> rfl), bS HB.out⟩
          ·replace c196 := Bool.eq_false_iff.mpr c196
           subst c196
           have H1 : (some (a0_2 == 0)) = some r := by rw [if_neg (show ¬ (false = true) by decide)] at H; exact H
           clear H
           have H := H1
           clear H1
           obtain rfl := Option.some.inj H
           have hnb209 := NB239_229.out
           have hnc209 := NB229_239.out
           have hnb210 := NB239_238.out
           have hnc210 := NB238_239.out
           obtain ⟨hcz211_0, hfz211_0, hcz211_1, hfz211_1⟩ := bk2 BK239.out
           have hnb212 := NB229_238.out
           have hnc212 := NB238_229.out
           obtain ⟨hcz213_0, hfz213_0, hcz213_1, hfz213_1, hcz213_2, hfz213_2, hcz213_3, hfz213_3, hcz213_4, hfz213_4, hcz213_5, hfz213_5⟩ := bk6 BK229.out
           go_wp2_with (first | (go_at_call 62; (with_reducible refine (impl_in.calls a0_3 1 t236 true _ A194.out).mono ?_); rintro e w' ⟨rfl, ⟨nd, rfl⟩⟩))
           go_ret
           exact ⟨by first | rfl | (simp [errW_none, errW_some] <;> rfl) | (simp [*, errW_none, errW_some] <;> rfl), bS HB.out⟩
         ·replace c195 := Bool.eq_false_iff.mpr c195
          subst c195
          have H1 : (some false) = some r := by rw [if_neg (show ¬ (false = true) by decide)] at H; exact H
          clear H
          have H := H1
          clear H1
          obtain rfl := Option.some.inj H
          have hnb214 := NB239_229.out
          have hnc214 := NB229_239.out
          have hnb215 := NB239_238.out
          have hnc215 := NB238_239.out
          obtain ⟨hcz216_0, hfz216_0, hcz216_1, hfz216_1⟩ := bk2 BK239.out
          have hnb217 := NB229_238.out
          have hnc217 := NB238_229.out
          obtain ⟨hcz218_0, hfz218_0, hcz218_1, hfz218_1, hcz218_2, hfz218_2, hcz218_3, hfz218_3, hcz218_4, hfz218_4, hcz218_5, hfz218_5⟩ := bk6 BK229.out
          go_wp2_with (first | (go_at_call 62; (with_reducible refine (impl_in.calls a0_3 1 t236 false _ A194.out).mono ?_); rintro e w' ⟨rfl, ⟨nd, rfl⟩⟩))
          go_ret
          exact ⟨by first | rfl | (simp [errW_none, errW_some] <;> rfl) | (simp [*, errW_none, errW_some] <;> rfl), bS HB.out⟩
        ·rw [if_neg c193] at H
         have c193b0 : decide (0 < t236) = false := decide_eq_false c193
         clear c193
         by_cases c219 : t237 = true
         ·subst c219
          have H1 : ((impl_isWord.f a0_2).bind fun t254 => (if t254 = true then (some true) else (some (a0_2 == 0)))) = some r := by rw [if_pos rfl] at H; exact H
          clear H
          have H := H1
          clear H1
          replace H := Option.bind_eq_some_iff.mp H
          obtain ⟨t254, A2200, H⟩ := H
          replace H : (if t254 = true then (some true) else (some (a0_2 == 0))) = some r := H
          have A220 := aM A2200
          clear A2200
          by_cases c221 : t254 = true
          ·subst c221
           have H1 : (some true) = some r := by rw [if_pos rfl] at H; exact H
           clear H
           have H := H1
           clear H1
           obtain rfl := Option.some.inj H
           have hnb222 := NB239_229.out
           have hnc222 := NB229_239.out
           have hnb223 := NB239_238.out
           have hnc223 := NB238_239.out
           obtain ⟨hcz224_0, hfz224_0, hcz224_1, hfz224_1⟩ := bk2 BK239.out
           have hnb225 := NB229_238.out
           have hnc225 := NB238_229.out
           obtain ⟨hcz226_0, hfz226_0, hcz226_1, hfz226_1, hcz226_2, hfz226_2, hcz226_3, hfz226_3, hcz226_4, hfz226_4, hcz226_5, hfz226_5⟩ := bk6 BK229.out
           go_wp2_with (first | (go_at_call 64; (with_reducible refine (impl_isWord.calls a0_2 true _ A220.out).mono ?_); rintro e w' ⟨rfl, ⟨nd, rfl⟩⟩))
           go_ret
           exact ⟨by first | rfl | (simp [errW_none, errW_some] <;> rfl) | (simp [*, errW_none, errW_some] <;> rfl), bS HB.out⟩
          ·replace c221 := Bool.eq_false_iff.mpr c221
           subst c221
           have H1 : (some (a0_2 == 0)) = some r := by rw [if_neg (show ¬ (false = true) by decide)] at H; exact H
           clear H
           have H := H1
           clear H1
           obtain rfl := Option.some.inj H
           have hnb227 := NB239_229.out
           have hnc227 := NB229_239.out
           have hnb228 := NB239_238.out
           have hnc228 := NB238_239.out
           obtain ⟨hcz229_0, hfz229_0, hcz229_1, hfz229_1⟩ := bk2 BK239.out
           have hnb230 := NB229_238.out
           have hnc230 := NB238_229.out
           obtain ⟨hcz231_0, hfz231_0, hcz231_1, hfz231_1, hcz231_2, hfz231_2, hcz231_3, hfz231_3, hcz231_4, hfz231_4, hcz231_5, hfz231_5⟩ := bk6 BK229.out
           go_wp2_with (first | (go_at_call 64; (with_reducible refine (impl_isWord.calls a0_2 false _ A220.out).mono ?_); rintro e w' ⟨rfl, ⟨nd, rfl⟩⟩))
           go_ret
           exact ⟨by first | rfl | (simp [errW_none, errW_some] <;> rfl) | (simp [*, errW_none, errW_some] <;> rfl), bS HB.out⟩
         ·replace c219 := Bool.eq_false_iff.mpr c219
          subst c219
          have H1 : (some (a0_2 == 0)) = some r := by rw [if_neg (show ¬ (false = true) by decide)] at H; exact H
          clear H
          have H := H1
          clear H1
          obtain rfl := Option.some.inj H
          have hnb232 := NB239_229.out
          have hnc232 := NB229_239.out
          have hnb233 := NB239_238.out
          have hnc233 := NB238_239.out
          obtain ⟨hcz234_0, hfz234_0, hcz234_1, hfz234_1⟩ := bk2 BK239.out
          have hnb235 := NB229_238.out
          have hnc235 := NB238_229.out
          obtain ⟨hcz236_0, hfz236_0, hcz236_1, hfz236_1, hcz236_2, hfz236_2, hcz236_3, hfz236_3, hcz236_4, hfz236_4, hcz236_5, hfz236_5⟩ := bk6 BK229.out
          go_wp2
          go_ret
          exact ⟨by first | rfl | (simp [errW_none, errW_some] <;> rfl) | (simp [*, errW_none, errW_some] <;> rfl), bS HB.out⟩
  ·rw [if_neg c4] at H
   have c4b0 : (a0_1 == 0) = false := beq_eq_false_iff_ne.mpr c4
   have c4b1 : (a0_1 != 0) = true := bne_iff_ne.mpr c4
   replace H := Option.bind_eq_some_iff.mp H
   obtain ⟨t231, A2370, H⟩ := H
   replace H : (some t231) = some r := H
   have A237 := aM A2370
   clear A2370
   obtain rfl := Option.some.inj H
   go_enter Try.func23, Try.ntmps23
   go_wp2_with (first | ((with_reducible refine gate_dst (N := 1) rfl ?_); (try (refine gate_guard (by rfl) ?_; dsimp only)); refine box_event ?hg (N := 1) ?hd (cs := #[.int .i64 a0_0, .int .i64 a0_1, .int .i64 a0_2, .int .i64 a0_3, .slice A0_4 l0_4.length c0_4, .slice A0_5 l0_5.length c0_5]) (t := 29) ?hr ?_; (case hd => rfl); (case hg => rfl); (case hr => first | (go_simp; done) | (go_simp; rfl)); intro gb229 hg w238 hbox hb; have _ := aM (below_step (bS HB.out) hb); have _ := aM (hbox); have _ := aM (leG hg (bS HB.out)); have _ := aM (leG hg (bS HB.out)); clear HB; rename_i HB BK229 GW229 GE229; clear hb hbox hg; obtain ⟨hcz239_0, hfz239_0, hcz239_1, hfz239_1, hcz239_2, hfz239_2, hcz239_3, hfz239_3, hcz239_4, hfz239_4, hcz239_5, hfz239_5⟩ := bk6 BK229.out) | ((with_reducible refine gate_callee (f := 50) rfl ?_); refine gL (some 9) rfl rfl Try.func50 (by kernel_rfl) rfl #[.int .i64 a0_0] rfl ?_; (with_reducible refine (impl_isKind.calls a0_0 true _ A2.out).mono ?_); rintro e w' ⟨rfl, ⟨nd, rfl⟩⟩; refine ⟨_, rfl, ?_⟩) | ((with_reducible refine gate_callee (f := 60) rfl ?_); refine gL (some 15) rfl rfl Try.func60 (by kernel_rfl) rfl #[.agg #[.int .i64 a0_0, .int .i64 a0_1, .int .i64 a0_2, .int .i64 a0_3, .slice A0_4 l0_4.length c0_4, .slice A0_5 l0_5.length c0_5]] rfl ?_; (with_reducible refine (impl_isFault.calls a0_0 a0_1 a0_2 a0_3 _ _ l0_4 _ _ l0_5 t231 _ ?side1 ?side2 ?side3 ?side4 A237.out).mono ?_); (case side1 => repeat (first | exact (Kd.C_below HR0_4.out (bS HB.out)) | (with_reducible refine Kd.C_alloc ?_ _) | (with_reducible refine Kd.C_drewN ?_ _) | (with_reducible refine Kd.C_drew ?_))); (case side2 => exact HC0_4.out); (case side3 => repeat (first | exact (Kd.C_below HR0_5.out (bS HB.out)) | (with_reducible refine Kd.C_alloc ?_ _) | (with_reducible refine Kd.C_drewN ?_ _) | (with_reducible refine Kd.C_drew ?_))); (case side4 => exact HC0_5.out); rintro e w240 ⟨rfl, hb⟩; refine ⟨_, rfl, ?_⟩; have _ := aM (kB BK229.out hb); have _ := aM (below_step (bS HB.out) hb); clear BK229 HB; rename_i BK229 HB; (try clear hb)))
   go_ret
   exact ⟨by first | rfl | (simp [errW_none, errW_some] <;> rfl) | (simp [*, errW_none, errW_some] <;> rfl), bS HB.out⟩
 ·replace c3 := Bool.eq_false_iff.mpr c3
  subst c3
  have H1 : (some false) = some r := by rw [if_neg (show ¬ (false = true) by decide)] at H; exact H
  clear H
  have H := H1
  clear H1
  obtain rfl := Option.some.inj H
  go_enter Try.func23, Try.ntmps23
  go_wp2_with (first | ((with_reducible refine gate_dst (N := 1) rfl ?_); (try (refine gate_guard (by rfl) ?_; dsimp only)); refine box_event ?hg (N := 1) ?hd (cs := #[.int .i64 a0_0, .int .i64 a0_1, .int .i64 a0_2, .int .i64 a0_3, .slice A0_4 l0_4.length c0_4, .slice A0_5 l0_5.length c0_5]) (t := 29) ?hr ?_; (case hd => rfl); (case hg => rfl); (case hr => first | (go_simp; done) | (go_simp; rfl)); intro gb229 hg w241 hbox hb; have _ := aM (below_step (bS HB.out) hb); have _ := aM (hbox); have _ := aM (leG hg (bS HB.out)); have _ := aM (leG hg (bS HB.out)); clear HB; rename_i HB BK229 GW229 GE229; clear hb hbox hg; obtain ⟨hcz242_0, hfz242_0, hcz242_1, hfz242_1, hcz242_2, hfz242_2, hcz242_3, hfz242_3, hcz242_4, hfz242_4, hcz242_5, hfz242_5⟩ := bk6 BK229.out) | ((with_reducible refine gate_callee (f := 50) rfl ?_); refine gL (some 9) rfl rfl Try.func50 (by kernel_rfl) rfl #[.int .i64 a0_0] rfl ?_; (with_reducible refine (impl_isKind.calls a0_0 false _ A2.out).mono ?_); rintro e w' ⟨rfl, ⟨nd, rfl⟩⟩; refine ⟨_, rfl, ?_⟩))
  go_ret
  exact ⟨by first | rfl | (simp [errW_none, errW_some] <;> rfl) | (simp [*, errW_none, errW_some] <;> rfl), bS HB.out⟩

end Go.Proofs.Ytfiplepbmennbaa.PFnExactPutResp
