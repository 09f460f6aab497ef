/- Functions and contracts of the law FnExactPutReq: what the Go text computes, step by step. -/
import Derived.Test.YteoghpcgompajaaL
import Derived.Test.YteoghpcgompajaaQFnExactPutReqx0
import Derived.Test.YteoghpcgompajaaQFnExactPutReqx6
import Derived.Test.YteoghpcgompajaaQFnExactPutReqx7
import Derived.Test.YteoghpcgompajaaQFnExactPutReqx8
namespace Go.Proofs.Yteoghpcgompajaa.PFnExactPutReq
open Go.Proofs.Yteoghpcgompajaa.K Go.Proofs.Yteoghpcgompajaa.G Go.RowKit Go.Proofs.YteoghpcgompajaaW.PrintWords Go.Proofs.YteoghpcgompajaaW.PrintLast Go.Proofs.YteoghpcgompajaaW.PrintMore
attribute [local go_sem] max2_int min2_int max_two min_two max_three min_three max_four min_four   -- for this text's walks alone
set_option linter.unusedVariables false
set_option linter.unusedSimpArgs false

/-! ### impl_ReqOk: function 25 -/
mutual
def impl_ReqOk.j0 : Nat → Bool → Int → Int → Int → List Int → List Bool → Int → Option (Bool)
 | 0, _, _, _, _, _, _, _ => none
 | k + 1, x48, x267000, x267001, x267002, x267003, x267004, x267005 => if x48 = true then (some false) else ((impl_isWord.f x267001).bind fun t280 => (if t280 = true then ((impl_isWord.f x267005).bind fun t281 => (if t281 = true then ((impl_allWords.f x267003).bind fun t282 => (if t282 = true then (impl_ReqOk.j1 k (decide ((wrap64 (x267001 + x267002)) > 65536)) x267000 x267001 x267002 x267003 x267004 x267005) else (impl_ReqOk.j1 k true x267000 x267001 x267002 x267003 x267004 x267005))) else (impl_ReqOk.j1 k true x267000 x267001 x267002 x267003 x267004 x267005))) else (impl_ReqOk.j1 k true x267000 x267001 x267002 x267003 x267004 x267005)))
def impl_ReqOk.j1 : Nat → Bool → Int → Int → Int → List Int → List Bool → Int → Option (Bool)
 | 0, _, _, _, _, _, _, _ => none
 | k + 1, x72, x267000, x267001, x267002, x267003, x267004, x267005 => if x72 = true then (some false) else (if x267000 = 23 then ((impl_written.f x267000 x267001 x267002 x267003 x267004 x267005).bind fun t283 => (some (decide ((wrap64 (x267005 + t283)) ≤ 65536)))) else (if x267005 = 0 then ((impl_written.f x267000 x267001 x267002 x267003 x267004 x267005).bind fun t284 => (some (decide ((wrap64 (x267001 + t284)) ≤ 65536)))) else (some false)))
end
def impl_ReqOk.f (k : Nat) (a0_0 : Int) (a0_1 : Int) (a0_2 : Int) (l0_3 : List Int) (l0_4 : List Bool) (a0_5 : Int) : Option (Bool) := (impl_counts.f k a0_0).bind fun bt267 => ((impl_isKind.f a0_0).bind fun t276 => (if t276 = true then ((impl_in.f a0_2 bt267.1 bt267.2.1).bind fun t277 => (if t277 = true then ((impl_in.f (l0_3.length : Int) bt267.2.2.1 bt267.2.2.2.1).bind fun t278 => (if t278 = true then ((impl_in.f (l0_4.length : Int) bt267.2.2.2.2.1 bt267.2.2.2.2.2).bind fun t279 => (impl_ReqOk.j0 k (!t279) a0_0 a0_1 a0_2 l0_3 l0_4 a0_5)) else (impl_ReqOk.j0 k true a0_0 a0_1 a0_2 l0_3 l0_4 a0_5))) else (impl_ReqOk.j0 k true a0_0 a0_1 a0_2 l0_3 l0_4 a0_5))) else (impl_ReqOk.j0 k true a0_0 a0_1 a0_2 l0_3 l0_4 a0_5)))
theorem impl_ReqOk.mono_l : ∀ k, (∀ y0 y1 y2 y3 y4 y5 y6, LeO (impl_ReqOk.j0 k y0 y1 y2 y3 y4 y5 y6) (impl_ReqOk.j0 (k + 1) y0 y1 y2 y3 y4 y5 y6)) ∧ (∀ y0 y1 y2 y3 y4 y5 y6, LeO (impl_ReqOk.j1 k y0 y1 y2 y3 y4 y5 y6) (impl_ReqOk.j1 (k + 1) y0 y1 y2 y3 y4 y5 y6))
 | 0 => ⟨fun _ _ _ _ _ _ _ r h => by simp [impl_ReqOk.j0] at h, fun _ _ _ _ _ _ _ r h => by simp [impl_ReqOk.j1] at h⟩
 | k + 1 => by
  obtain ⟨ih0, ih1⟩ := impl_ReqOk.mono_l k
  refine ⟨?_, ?_⟩
  ·intro y0 y1 y2 y3 y4 y5 y6
   unfold impl_ReqOk.j0
   repeat' first
   | (with_reducible exact ih0 _ _ _ _ _ _ _)
   | (with_reducible exact ih1 _ _ _ _ _ _ _)
   | (with_reducible exact impl_counts.mono _ _)
   | (with_reducible exact LeO.refl _)
   | (with_reducible exact LeO.none _)
   | (with_reducible refine LeO.ite ?_ ?_)
   | (with_reducible refine LeO.bind ?_ (fun _ => ?_))
   | exact ih0 _ _ _ _ _ _ _
   | exact ih1 _ _ _ _ _ _ _
   | exact impl_counts.mono _ _
   | exact LeO.none _
   | refine LeO.ite ?_ ?_
   | refine LeO.bind ?_ (fun _ => ?_)
  ·intro y0 y1 y2 y3 y4 y5 y6
   unfold impl_ReqOk.j1
   repeat' first
   | (with_reducible exact ih0 _ _ _ _ _ _ _)
   | (with_reducible exact ih1 _ _ _ _ _ _ _)
   | (with_reducible exact impl_counts.mono _ _)
   | (with_reducible exact LeO.refl _)
   | (with_reducible exact LeO.none _)
   | (with_reducible refine LeO.ite ?_ ?_)
   | (with_reducible refine LeO.bind ?_ (fun _ => ?_))
   | exact ih0 _ _ _ _ _ _ _
   | exact ih1 _ _ _ _ _ _ _
   | exact impl_counts.mono _ _
   | exact LeO.none _
   | refine LeO.ite ?_ ?_
   | refine LeO.bind ?_ (fun _ => ?_)
theorem impl_ReqOk.mono : ∀ a0 a1 a2 a3 a4 a5 k, LeO (impl_ReqOk.f k a0 a1 a2 a3 a4 a5) (impl_ReqOk.f (k + 1) a0 a1 a2 a3 a4 a5) := by
 intro a0 a1 a2 a3 a4 a5 k
 obtain ⟨ih0, ih1⟩ := impl_ReqOk.mono_l k
 unfold impl_ReqOk.f
 repeat' first
   | (with_reducible exact ih0 _ _ _ _ _ _ _)
   | (with_reducible exact ih1 _ _ _ _ _ _ _)
   | (with_reducible exact impl_counts.mono _ _)
   | (with_reducible exact LeO.refl _)
   | (with_reducible exact LeO.none _)
   | (with_reducible refine LeO.ite ?_ ?_)
   | (with_reducible refine LeO.bind ?_ (fun _ => ?_))
   | exact ih0 _ _ _ _ _ _ _
   | exact ih1 _ _ _ _ _ _ _
   | exact impl_counts.mono _ _
   | exact LeO.none _
   | refine LeO.ite ?_ ?_
   | refine LeO.bind ?_ (fun _ => ?_)
def impl_ReqOk.T8 : Bool × List (List Nat × List Nat) := (true, [([], []), ([0], [0]), ([1], [1]), ([2], [2]), ([3], [3]), ([4, 3], [3, 4]), ([3], [3]), ([6, 3, 3], [3, 6]), ([5, 7, 3], [3, 5, 7]), ([8, 3], [3, 8]), ([3, 9], [3, 9]), ([10, 7, 0, 1, 2, 3, 4, 5, 6, 7, 8, 9, 10], [10])])
def impl_ReqOk.B8 : List Nat := [0, 1, 3, 7, 15, 31, 15, 79, 255, 511, 1023, 2047]
theorem impl_ReqOk.tab8 : rtab .any (opsOf Try.f25 8) = impl_ReqOk.T8 := by kernel_rfl
theorem impl_ReqOk.bits8 : waitsOk impl_ReqOk.T8.2 impl_ReqOk.B8 = true := by kernel_rfl
set_option maxHeartbeats 8000000 in
set_option maxRecDepth 100000 in
theorem impl_ReqOk.calls (k : Nat) (a0_0 : Int) (a0_1 : Int) (a0_2 : Int) (A0_3 : Option Addr) (c0_3 : Nat) (l0_3 : List Int) (A0_4 : Option Addr) (c0_4 : Nat) (l0_4 : List Bool) (a0_5 : Int) (r : Bool) (w : World) (hr0_3 : Kd.C (Kd.int .i64) w A0_3 l0_3.length l0_3) (hc0_3 : l0_3.length ≤ c0_3) (hr0_4 : Kd.C Kd.bool w A0_4 l0_4.length l0_4) (hc0_4 : l0_4.length ≤ c0_4) (h : impl_ReqOk.f k a0_0 a0_1 a0_2 l0_3 l0_4 a0_5 = some r) :
  Calls Try.prog 25 #[.agg #[.int .i64 a0_0, .int .i64 a0_1, .int .i64 a0_2, .slice A0_3 l0_3.length c0_3, .slice A0_4 l0_4.length c0_4, .int .i64 a0_5]] w fun e w' => e = .returned (.bool r) ∧ Below w.heap.size w w' := by
 have hu29 := Try.underlying29
 have hu75 := Try.underlying75
 have HR0_3 := aM hr0_3
 have HC0_3 := aM hc0_3
 clear hr0_3 hc0_3
 have HR0_4 := aM hr0_4
 have HC0_4 := aM hc0_4
 clear hr0_4 hc0_4
 have HB := aM (Below.refl w.heap.size w)
 have H : ((impl_counts.f k a0_0).bind fun bt267 => ((impl_isKind.f a0_0).bind fun t276 => (if t276 = true then ((impl_in.f a0_2 bt267.1 bt267.2.1).bind fun t277 => (if t277 = true then ((impl_in.f (l0_3.length : Int) bt267.2.2.1 bt267.2.2.2.1).bind fun t278 => (if t278 = true then ((impl_in.f (l0_4.length : Int) bt267.2.2.2.2.1 bt267.2.2.2.2.2).bind fun t279 => (impl_ReqOk.j0 k (!t279) a0_0 a0_1 a0_2 l0_3 l0_4 a0_5)) else (impl_ReqOk.j0 k true a0_0 a0_1 a0_2 l0_3 l0_4 a0_5))) else (impl_ReqOk.j0 k true a0_0 a0_1 a0_2 l0_3 l0_4 a0_5))) else (impl_ReqOk.j0 k true a0_0 a0_1 a0_2 l0_3 l0_4 a0_5)))) = some r := h
 clear h
 replace H := Option.bind_eq_some_iff.mp H
 obtain ⟨⟨t267, t268, t269, t270, t271, t272⟩, A20, H⟩ := H
 replace H : ((impl_isKind.f a0_0).bind fun t276 => (if t276 = true then ((impl_in.f a0_2 t267 t268).bind fun t277 => (if t277 = true then ((impl_in.f (l0_3.length : Int) t269 t270).bind fun t278 => (if t278 = true then ((impl_in.f (l0_4.length : Int) t271 t272).bind fun t279 => (impl_ReqOk.j0 k (!t279) a0_0 a0_1 a0_2 l0_3 l0_4 a0_5)) else (impl_ReqOk.j0 k true a0_0 a0_1 a0_2 l0_3 l0_4 a0_5))) else (impl_ReqOk.j0 k true a0_0 a0_1 a0_2 l0_3 l0_4 a0_5))) else (impl_ReqOk.j0 k true a0_0 a0_1 a0_2 l0_3 l0_4 a0_5))) = some r := H
 have A2 := aM A20
 clear A20
 have HC3 := aM H
 clear H
 go_enter Try.func25, Try.ntmps25
 go_upto_region 2 with (first | ((with_reducible refine gate_dst (N := 1) rfl ?_); (try (refine gate_guard (by rfl) ?_; dsimp only)); refine box_event ?hg (N := 1) ?hd (cs := #[.int .i64 a0_0, .int .i64 a0_1, .int .i64 a0_2, .slice A0_3 l0_3.length c0_3, .slice A0_4 l0_4.length c0_4, .int .i64 a0_5]) (t := 29) ?hr ?_; (case hd => rfl); (case hg => rfl); (case hr => first | (go_simp; done) | (go_simp; rfl)); intro gb266 hg w4 hbox hb; have _ := aM (below_step (bS HB.out) hb); have _ := aM (hbox); have _ := aM (leG hg (bS HB.out)); have _ := aM (leG hg (bS HB.out)); clear HB; rename_i HB BK266 GW266 GE266; clear hb hbox hg; obtain ⟨hcz5_0, hfz5_0, hcz5_1, hfz5_1, hcz5_2, hfz5_2, hcz5_3, hfz5_3, hcz5_4, hfz5_4, hcz5_5, hfz5_5⟩ := bk6 BK266.out) | ((with_reducible refine gate_callee (f := 60) rfl ?_); refine gL (some 9) rfl rfl Try.func60 (by kernel_rfl) rfl #[.int .i64 a0_0] rfl ?_; (with_reducible refine (impl_counts.calls k a0_0 t267 t268 t269 t270 t271 t272 _ A2.out).mono ?_); rintro e w6 ⟨rfl, hb⟩; refine ⟨_, rfl, ?_⟩; have _ := aM (kB BK266.out hb); have _ := aM (below_step (bS HB.out) hb); clear BK266 HB; rename_i BK266 HB; (try clear hb)) | ((with_reducible refine gate_dst (N := 3) rfl ?_); (try (refine gate_guard (by rfl) ?_; dsimp only)); refine box_event ?hg (N := 3) ?hd (cs := #[.int .i64 0, .int .i64 0]) (t := 75) ?hr ?_; (case hd => rfl); (case hg => rfl); (case hr => first | (go_simp; done) | (go_simp; rfl)); intro gb273 hg w7 hbox hb; have _ := aM (kB BK266.out hb); have _ := aM (below_step (bS HB.out) hb); have _ := aM (hbox); have _ := aM (leG hg (bS HB.out)); have _ := aM (leG hg (bS HB.out)); have _ := aM (neL hg (kA BK266.out)); have _ := aM (neG hg (kA BK266.out)); clear BK266 HB; rename_i BK266 HB BK273 GW273 GE273 NB266_273 NB273_266; clear hb hbox hg) | ((with_reducible refine gate_dst (N := 4) rfl ?_); (try (refine gate_guard (by rfl) ?_; dsimp only)); refine box_event ?hg (N := 4) ?hd (cs := #[.int .i64 0, .int .i64 0]) (t := 75) ?hr ?_; (case hd => rfl); (case hg => rfl); (case hr => first | (go_simp; done) | (go_simp; rfl)); intro gb274 hg w8 hbox hb; have _ := aM (kB BK266.out hb); have _ := aM (kB BK273.out hb); have _ := aM (below_step (bS HB.out) hb); have _ := aM (hbox); have _ := aM (leG hg (bS HB.out)); have _ := aM (leG hg (bS HB.out)); have _ := aM (neL hg (kA BK266.out)); have _ := aM (neG hg (kA BK266.out)); have _ := aM (neL hg (kA BK273.out)); have _ := aM (neG hg (kA BK273.out)); clear BK266 BK273 HB; rename_i BK266 BK273 HB BK274 GW274 GE274 NB266_274 NB274_266 NB273_274 NB274_273; clear hb hbox hg) | ((with_reducible refine gate_dst (N := 5) rfl ?_); (try (refine gate_guard (by rfl) ?_; dsimp only)); refine box_event ?hg (N := 5) ?hd (cs := #[.int .i64 0, .int .i64 0]) (t := 75) ?hr ?_; (case hd => rfl); (case hg => rfl); (case hr => first | (go_simp; done) | (go_simp; rfl)); intro gb275 hg w9 hbox hb; have _ := aM (kB BK266.out hb); have _ := aM (kB BK273.out hb); have _ := aM (kB BK274.out hb); have _ := aM (below_step (bS HB.out) hb); have _ := aM (hbox); have _ := aM (leG hg (bS HB.out)); have _ := aM (leG hg (bS HB.out)); have _ := aM (neL hg (kA BK266.out)); have _ := aM (neG hg (kA BK266.out)); have _ := aM (neL hg (kA BK273.out)); have _ := aM (neG hg (kA BK273.out)); have _ := aM (neL hg (kA BK274.out)); have _ := aM (neG hg (kA BK274.out)); clear BK266 BK273 BK274 HB; rename_i BK266 BK273 BK274 HB BK275 GW275 GE275 NB266_275 NB275_266 NB273_275 NB275_273 NB274_275 NB275_274; clear hb hbox hg; have hnb10 := NB273_266.out; have hnc10 := NB266_273.out; have hnb11 := NB273_274.out; have hnc11 := NB274_273.out; have hnb12 := NB273_275.out; have hnc12 := NB275_273.out; obtain ⟨hcz13_0, hfz13_0, hcz13_1, hfz13_1⟩ := bk2 BK273.out; have hnb14 := NB274_266.out; have hnc14 := NB266_274.out; have hnb15 := NB274_275.out; have hnc15 := NB275_274.out; obtain ⟨hcz16_0, hfz16_0, hcz16_1, hfz16_1⟩ := bk2 BK274.out; have hnb17 := NB275_266.out; have hnc17 := NB266_275.out; obtain ⟨hcz18_0, hfz18_0, hcz18_1, hfz18_1⟩ := bk2 BK275.out))
 (try simp only [Act.put, List.setIfInBounds_toArray, List.set_cons_zero, List.set_cons_succ])
 go_cut [48] (fun v48 wc => ∃ (kq : Nat) (x48_2 : Bool), v48 = .bool x48_2 ∧ Aside0 (impl_ReqOk.j0 kq x48_2 a0_0 a0_1 a0_2 l0_3 l0_4 a0_5 = some r) ∧ Aside0 (kq ≤ k) ∧ Aside0 (wc.heap[gb266]? = some (.cells #[.int .i64 a0_0, .int .i64 a0_1, .int .i64 a0_2, (.slice A0_3 l0_3.length c0_3), (.slice A0_4 l0_4.length c0_4), .int .i64 a0_5] 29 (0, 0))) ∧ Aside0 (wc.heap[gb273]? = some (.cells #[.int .i64 t267, .int .i64 t268] 75 (0, 0))) ∧ Aside0 (wc.heap[gb274]? = some (.cells #[.int .i64 t269, .int .i64 t270] 75 (0, 0))) ∧ Aside0 (wc.heap[gb275]? = some (.cells #[.int .i64 t271, .int .i64 t272] 75 (0, 0))) ∧ Aside0 (Below w.heap.size w wc))
 case first =>
  have H := HC3.out
  clear HC3
  replace H := Option.bind_eq_some_iff.mp H
  obtain ⟨t276, A190, H⟩ := H
  replace H : (if t276 = true then ((impl_in.f a0_2 t267 t268).bind fun t277 => (if t277 = true then ((impl_in.f (l0_3.length : Int) t269 t270).bind fun t278 => (if t278 = true then ((impl_in.f (l0_4.length : Int) t271 t272).bind fun t279 => (impl_ReqOk.j0 k (!t279) a0_0 a0_1 a0_2 l0_3 l0_4 a0_5)) else (impl_ReqOk.j0 k true a0_0 a0_1 a0_2 l0_3 l0_4 a0_5))) else (impl_ReqOk.j0 k true a0_0 a0_1 a0_2 l0_3 l0_4 a0_5))) else (impl_ReqOk.j0 k true a0_0 a0_1 a0_2 l0_3 l0_4 a0_5)) = some r := H
  have A19 := aM A190
  clear A190
  by_cases c20 : t276 = true
  ·subst c20
   have H1 : ((impl_in.f a0_2 t267 t268).bind fun t277 => (if t277 = true then ((impl_in.f (l0_3.length : Int) t269 t270).bind fun t278 => (if t278 = true then ((impl_in.f (l0_4.length : Int) t271 t272).bind fun t279 => (impl_ReqOk.j0 k (!t279) a0_0 a0_1 a0_2 l0_3 l0_4 a0_5)) else (impl_ReqOk.j0 k true a0_0 a0_1 a0_2 l0_3 l0_4 a0_5))) else (impl_ReqOk.j0 k true a0_0 a0_1 a0_2 l0_3 l0_4 a0_5))) = some r := by rw [if_pos rfl] at H; exact H
   clear H
   have H := H1
   clear H1
   replace H := Option.bind_eq_some_iff.mp H
   obtain ⟨t277, A210, H⟩ := H
   replace H : (if t277 = true then ((impl_in.f (l0_3.length : Int) t269 t270).bind fun t278 => (if t278 = true then ((impl_in.f (l0_4.length : Int) t271 t272).bind fun t279 => (impl_ReqOk.j0 k (!t279) a0_0 a0_1 a0_2 l0_3 l0_4 a0_5)) else (impl_ReqOk.j0 k true a0_0 a0_1 a0_2 l0_3 l0_4 a0_5))) else (impl_ReqOk.j0 k true a0_0 a0_1 a0_2 l0_3 l0_4 a0_5)) = some r := H
   have A21 := aM A210
   clear A210
   by_cases c22 : t277 = true
   ·subst c22
    have H1 : ((impl_in.f (l0_3.length : Int) t269 t270).bind fun t278 => (if t278 = true then ((impl_in.f (l0_4.length : Int) t271 t272).bind fun t279 => (impl_ReqOk.j0 k (!t279) a0_0 a0_1 a0_2 l0_3 l0_4 a0_5)) else (impl_ReqOk.j0 k true a0_0 a0_1 a0_2 l0_3 l0_4 a0_5))) = some r := by rw [if_pos rfl] at H; exact H
    clear H
    have H := H1
    clear H1
    replace H := Option.bind_eq_some_iff.mp H
    obtain ⟨t278, A230, H⟩ := H
    replace H : (if t278 = true then ((impl_in.f (l0_4.length : Int) t271 t272).bind fun t279 => (impl_ReqOk.j0 k (!t279) a0_0 a0_1 a0_2 l0_3 l0_4 a0_5)) else (impl_ReqOk.j0 k true a0_0 a0_1 a0_2 l0_3 l0_4 a0_5)) = some r := H
    have A23 := aM A230
    clear A230
    by_cases c24 : t278 = true
    ·subst c24
     have H1 : ((impl_in.f (l0_4.length : Int) t271 t272).bind fun t279 => (impl_ReqOk.j0 k (!t279) a0_0 a0_1 a0_2 l0_3 l0_4 a0_5)) = some r := by rw [if_pos rfl] at H; exact H
     clear H
     have H := H1
     clear H1
     replace H := Option.bind_eq_some_iff.mp H
     obtain ⟨t279, A250, H⟩ := H
     replace H : (impl_ReqOk.j0 k (!t279) a0_0 a0_1 a0_2 l0_3 l0_4 a0_5) = some r := H
     have A25 := aM A250
     clear A250
     have H' := aM H
     clear H
     have hnb26 := NB266_273.out
     have hnc26 := NB273_266.out
     have hnb27 := NB266_274.out
     have hnc27 := NB274_266.out
     have hnb28 := NB266_275.out
     have hnc28 := NB275_266.out
     obtain ⟨hcz29_0, hfz29_0, hcz29_1, hfz29_1, hcz29_2, hfz29_2, hcz29_3, hfz29_3, hcz29_4, hfz29_4, hcz29_5, hfz29_5⟩ := bk6 BK266.out
     go_wp2_with (first | ((with_reducible refine gate_callee (f := 50) rfl ?_); refine gL (some 15) rfl rfl Try.func50 (by kernel_rfl) rfl #[.int .i64 a0_0] rfl ?_; (with_reducible refine (impl_isKind.calls a0_0 true _ A19.out).mono ?_); rintro e w' ⟨rfl, ⟨nd, rfl⟩⟩; refine ⟨_, rfl, ?_⟩; have hnb30 := NB273_274.out; have hnc30 := NB274_273.out; have hnb31 := NB273_275.out; have hnc31 := NB275_273.out; obtain ⟨hcz32_0, hfz32_0, hcz32_1, hfz32_1⟩ := bk2 BK273.out) | (go_at_call 61; (with_reducible refine (impl_in.calls a0_2 t267 t268 true _ A21.out).mono ?_); rintro e w' ⟨rfl, ⟨nd, rfl⟩⟩; have hnb33 := NB274_275.out; have hnc33 := NB275_274.out; obtain ⟨hcz34_0, hfz34_0, hcz34_1, hfz34_1⟩ := bk2 BK274.out) | (go_at_call 61; (with_reducible refine (impl_in.calls (l0_3.length : Int) t269 t270 true _ A23.out).mono ?_); rintro e w' ⟨rfl, ⟨nd, rfl⟩⟩; obtain ⟨hcz35_0, hfz35_0, hcz35_1, hfz35_1⟩ := bk2 BK275.out) | (go_at_call 61; (with_reducible refine (impl_in.calls (l0_4.length : Int) t271 t272 t279 _ A25.out).mono ?_); rintro e w' ⟨rfl, ⟨nd, rfl⟩⟩))
     go_meet
     case rel => exact ⟨_, (!t279), (by first | rfl | (simp; done) | (simp [*]; done)), H', ⟨by first | omega | exact Nat.le_refl _⟩, ⟨kX BK266.out⟩, ⟨kX BK273.out⟩, ⟨kX BK274.out⟩, ⟨kX BK275.out⟩, ⟨bS HB.out⟩⟩
    ·replace c24 := Bool.eq_false_iff.mpr c24
     subst c24
     have H1 : (impl_ReqOk.j0 k true a0_0 a0_1 a0_2 l0_3 l0_4 a0_5) = some r := by rw [if_neg (show ¬ (false = true) by decide)] at H; exact H
     clear H
     have H := H1
     clear H1
     have H' := aM H
     clear H
     have hnb36 := NB266_273.out
     have hnc36 := NB273_266.out
     have hnb37 := NB266_274.out
     have hnc37 := NB274_266.out
     have hnb38 := NB266_275.out
     have hnc38 := NB275_266.out
     obtain ⟨hcz39_0, hfz39_0, hcz39_1, hfz39_1, hcz39_2, hfz39_2, hcz39_3, hfz39_3, hcz39_4, hfz39_4, hcz39_5, hfz39_5⟩ := bk6 BK266.out
     go_wp2_with (first | ((with_reducible refine gate_callee (f := 50) rfl ?_); refine gL (some 15) rfl rfl Try.func50 (by kernel_rfl) rfl #[.int .i64 a0_0] rfl ?_; (with_reducible refine (impl_isKind.calls a0_0 true _ A19.out).mono ?_); rintro e w' ⟨rfl, ⟨nd, rfl⟩⟩; refine ⟨_, rfl, ?_⟩; have hnb40 := NB273_274.out; have hnc40 := NB274_273.out; have hnb41 := NB273_275.out; have hnc41 := NB275_273.out; obtain ⟨hcz42_0, hfz42_0, hcz42_1, hfz42_1⟩ := bk2 BK273.out) | (go_at_call 61; (with_reducible refine (impl_in.calls a0_2 t267 t268 true _ A21.out).mono ?_); rintro e w' ⟨rfl, ⟨nd, rfl⟩⟩; have hnb43 := NB274_275.out; have hnc43 := NB275_274.out; obtain ⟨hcz44_0, hfz44_0, hcz44_1, hfz44_1⟩ := bk2 BK274.out) | (go_at_call 61; (with_reducible refine (impl_in.calls (l0_3.length : Int) t269 t270 false _ A23.out).mono ?_); rintro e w' ⟨rfl, ⟨nd, rfl⟩⟩))
     go_meet
     case rel => exact ⟨_, (true), (by first | rfl | (simp; done) | (simp [*]; done)), H', ⟨by first | omega | exact Nat.le_refl _⟩, ⟨kX BK266.out⟩, ⟨kX BK273.out⟩, ⟨kX BK274.out⟩, ⟨kX BK275.out⟩, ⟨bS HB.out⟩⟩
   ·replace c22 := Bool.eq_false_iff.mpr c22
    subst c22
    have H1 : (impl_ReqOk.j0 k true a0_0 a0_1 a0_2 l0_3 l0_4 a0_5) = some r := by rw [if_neg (show ¬ (false = true) by decide)] at H; exact H
    clear H
    have H := H1
    clear H1
    have H' := aM H
    clear H
    have hnb45 := NB266_273.out
    have hnc45 := NB273_266.out
    have hnb46 := NB266_274.out
    have hnc46 := NB274_266.out
    have hnb47 := NB266_275.out
    have hnc47 := NB275_266.out
    obtain ⟨hcz48_0, hfz48_0, hcz48_1, hfz48_1, hcz48_2, hfz48_2, hcz48_3, hfz48_3, hcz48_4, hfz48_4, hcz48_5, hfz48_5⟩ := bk6 BK266.out
    go_wp2_with (first | ((with_reducible refine gate_callee (f := 50) rfl ?_); refine gL (some 15) rfl rfl Try.func50 (by kernel_rfl) rfl #[.int .i64 a0_0] rfl ?_; (with_reducible refine (impl_isKind.calls a0_0 true _ A19.out).mono ?_); rintro e w' ⟨rfl, ⟨nd, rfl⟩⟩; refine ⟨_, rfl, ?_⟩; have hnb49 := NB273_274.out; have hnc49 := NB274_273.out; have hnb50 := NB273_275.out; have hnc50 := NB275_273.out; obtain ⟨hcz51_0, hfz51_0, hcz51_1, hfz51_1⟩ := bk2 BK273.out) | (go_at_call 61; (with_reducible refine (impl_in.calls a0_2 t267 t268 false _ A21.out).mono ?_); rintro e w' ⟨rfl, ⟨nd, rfl⟩⟩))
    go_meet
    case rel => exact ⟨_, (true), (by first | rfl | (simp; done) | (simp [*]; done)), H', ⟨by first | omega | exact Nat.le_refl _⟩, ⟨kX BK266.out⟩, ⟨kX BK273.out⟩, ⟨kX BK274.out⟩, ⟨kX BK275.out⟩, ⟨bS HB.out⟩⟩
  ·replace c20 := Bool.eq_false_iff.mpr c20
   subst c20
   have H1 : (impl_ReqOk.j0 k true a0_0 a0_1 a0_2 l0_3 l0_4 a0_5) = some r := by rw [if_neg (show ¬ (false = true) by decide)] at H; exact H
   clear H
   have H := H1
   clear H1
   have H' := aM H
   clear H
   have hnb52 := NB266_273.out
   have hnc52 := NB273_266.out
   have hnb53 := NB266_274.out
   have hnc53 := NB274_266.out
   have hnb54 := NB266_275.out
   have hnc54 := NB275_266.out
   obtain ⟨hcz55_0, hfz55_0, hcz55_1, hfz55_1, hcz55_2, hfz55_2, hcz55_3, hfz55_3, hcz55_4, hfz55_4, hcz55_5, hfz55_5⟩ := bk6 BK266.out
   go_wp2_with (first | ((with_reducible refine gate_callee (f := 50) rfl ?_); refine gL (some 15) rfl rfl Try.func50 (by kernel_rfl) rfl #[.int .i64 a0_0] rfl ?_; (with_reducible refine (impl_isKind.calls a0_0 false _ A19.out).mono ?_); rintro e w' ⟨rfl, ⟨nd, rfl⟩⟩; refine ⟨_, rfl, ?_⟩))
   go_meet
   case rel => exact ⟨_, (true), (by first | rfl | (simp; done) | (simp [*]; done)), H', ⟨by first | omega | exact Nat.le_refl _⟩, ⟨kX BK266.out⟩, ⟨kX BK273.out⟩, ⟨kX BK274.out⟩, ⟨kX BK275.out⟩, ⟨bS HB.out⟩⟩
 case rest =>
  clear HC3
  try clear hcz13_0
  try clear hcz13_1
  try clear hcz16_0
  try clear hcz16_1
  try clear hcz18_0
  try clear hcz18_1
  try clear hcz5_0
  try clear hcz5_1
  try clear hcz5_2
  try clear hcz5_3
  try clear hcz5_4
  try clear hcz5_5
  try clear hfz13_0
  try clear hfz13_1
  try clear hfz16_0
  try clear hfz16_1
  try clear hfz18_0
  try clear hfz18_1
  try clear hfz5_0
  try clear hfz5_1
  try clear hfz5_2
  try clear hfz5_3
  try clear hfz5_4
  try clear hfz5_5
  obtain ⟨kq, x48_2, rfl, HA, HJ2, BK266, BK273, BK274, BK275, HB⟩ := hcut
  cases kq with
  | zero => exact absurd HA.out (by simp [impl_ReqOk.j0])
  | succ kj2 =>
   have H := HA.out
   clear HA
   simp only [impl_ReqOk.j0] at H
   by_cases c56 : x48_2 = true
   ·subst c56
    have H1 : (some false) = some r := by rw [if_pos rfl] at H; exact H
    clear H
    have H := H1
    clear H1
    obtain rfl := Option.some.inj H
    go_wp2
    go_ret
    exact ⟨by first | rfl | (simp [errW_none, errW_some] <;> rfl) | (simp [*, errW_none, errW_some] <;> rfl), bS HB.out⟩
   ·replace c56 := Bool.eq_false_iff.mpr c56
    subst c56
    have H1 : ((impl_isWord.f a0_1).bind fun t280 => (if t280 = true then ((impl_isWord.f a0_5).bind fun t281 => (if t281 = true then ((impl_allWords.f l0_3).bind fun t282 => (if t282 = true then (impl_ReqOk.j1 kj2 (decide ((wrap64 (a0_1 + a0_2)) > 65536)) a0_0 a0_1 a0_2 l0_3 l0_4 a0_5) else (impl_ReqOk.j1 kj2 true a0_0 a0_1 a0_2 l0_3 l0_4 a0_5))) else (impl_ReqOk.j1 kj2 true a0_0 a0_1 a0_2 l0_3 l0_4 a0_5))) else (impl_ReqOk.j1 kj2 true a0_0 a0_1 a0_2 l0_3 l0_4 a0_5))) = some r := by rw [if_neg (show ¬ (false = true) by decide)] at H; exact H
    clear H
    have H := H1
    clear H1
    have HC57 := aM H
    clear H
    go_upto_region 4 with (fail)
    go_cut [72] (fun v72 wc => ∃ (kq : Nat) (x72_56 : Bool), v72 = .bool x72_56 ∧ Aside0 (impl_ReqOk.j1 kq x72_56 a0_0 a0_1 a0_2 l0_3 l0_4 a0_5 = some r) ∧ Aside0 (kq ≤ kj2) ∧ Aside0 (wc.heap[gb266]? = some (.cells #[.int .i64 a0_0, .int .i64 a0_1, .int .i64 a0_2, (.slice A0_3 l0_3.length c0_3), (.slice A0_4 l0_4.length c0_4), .int .i64 a0_5] 29 (0, 0))) ∧ Aside0 (wc.heap[gb273]? = some (.cells #[.int .i64 t267, .int .i64 t268] 75 (0, 0))) ∧ Aside0 (wc.heap[gb274]? = some (.cells #[.int .i64 t269, .int .i64 t270] 75 (0, 0))) ∧ Aside0 (wc.heap[gb275]? = some (.cells #[.int .i64 t271, .int .i64 t272] 75 (0, 0))) ∧ Aside0 (Below w.heap.size w wc))
    case first =>
     have H := HC57.out
     clear HC57
     replace H := Option.bind_eq_some_iff.mp H
     obtain ⟨t280, A580, H⟩ := H
     replace H : (if t280 = true then ((impl_isWord.f a0_5).bind fun t281 => (if t281 = true then ((impl_allWords.f l0_3).bind fun t282 => (if t282 = true then (impl_ReqOk.j1 kj2 (decide ((wrap64 (a0_1 + a0_2)) > 65536)) a0_0 a0_1 a0_2 l0_3 l0_4 a0_5) else (impl_ReqOk.j1 kj2 true a0_0 a0_1 a0_2 l0_3 l0_4 a0_5))) else (impl_ReqOk.j1 kj2 true a0_0 a0_1 a0_2 l0_3 l0_4 a0_5))) else (impl_ReqOk.j1 kj2 true a0_0 a0_1 a0_2 l0_3 l0_4 a0_5)) = some r := H
     have A58 := aM A580
     clear A580
     by_cases c59 : t280 = true
     ·subst c59
      have H1 : ((impl_isWord.f a0_5).bind fun t281 => (if t281 = true then ((impl_allWords.f l0_3).bind fun t282 => (if t282 = true then (impl_ReqOk.j1 kj2 (decide ((wrap64 (a0_1 + a0_2)) > 65536)) a0_0 a0_1 a0_2 l0_3 l0_4 a0_5) else (impl_ReqOk.j1 kj2 true a0_0 a0_1 a0_2 l0_3 l0_4 a0_5))) else (impl_ReqOk.j1 kj2 true a0_0 a0_1 a0_2 l0_3 l0_4 a0_5))) = some r := by rw [if_pos rfl] at H; exact H
      clear H
      have H := H1
      clear H1
      replace H := Option.bind_eq_some_iff.mp H
      obtain ⟨t281, A600, H⟩ := H
      replace H : (if t281 = true then ((impl_allWords.f l0_3).bind fun t282 => (if t282 = true then (impl_ReqOk.j1 kj2 (decide ((wrap64 (a0_1 + a0_2)) > 65536)) a0_0 a0_1 a0_2 l0_3 l0_4 a0_5) else (impl_ReqOk.j1 kj2 true a0_0 a0_1 a0_2 l0_3 l0_4 a0_5))) else (impl_ReqOk.j1 kj2 true a0_0 a0_1 a0_2 l0_3 l0_4 a0_5)) = some r := H
      have A60 := aM A600
      clear A600
      by_cases c61 : t281 = true
      ·subst c61
       have H1 : ((impl_allWords.f l0_3).bind fun t282 => (if t282 = true then (impl_ReqOk.j1 kj2 (decide ((wrap64 (a0_1 + a0_2)) > 65536)) a0_0 a0_1 a0_2 l0_3 l0_4 a0_5) else (impl_ReqOk.j1 kj2 true a0_0 a0_1 a0_2 l0_3 l0_4 a0_5))) = some r := by rw [if_pos rfl] at H; exact H
       clear H
       have H := H1
       clear H1
       replace H := Option.bind_eq_some_iff.mp H
       obtain ⟨t282, A620, H⟩ := H
       replace H : (if t282 = true then (impl_ReqOk.j1 kj2 (decide ((wrap64 (a0_1 + a0_2)) > 65536)) a0_0 a0_1 a0_2 l0_3 l0_4 a0_5) else (impl_ReqOk.j1 kj2 true a0_0 a0_1 a0_2 l0_3 l0_4 a0_5)) = some r := H
       have A62 := aM A620
       clear A620
       by_cases c63 : t282 = true
       ·subst c63
        have H1 : (impl_ReqOk.j1 kj2 (decide ((wrap64 (a0_1 + a0_2)) > 65536)) a0_0 a0_1 a0_2 l0_3 l0_4 a0_5) = some r := by rw [if_pos rfl] at H; exact H
        clear H
        have H := H1
        clear H1
        have H' := aM H
        clear H
        have hnb64 := NB266_273.out
        have hnc64 := NB273_266.out
        have hnb65 := NB266_274.out
        have hnc65 := NB274_266.out
        have hnb66 := NB266_275.out
        have hnc66 := NB275_266.out
        obtain ⟨hcz67_0, hfz67_0, hcz67_1, hfz67_1, hcz67_2, hfz67_2, hcz67_3, hfz67_3, hcz67_4, hfz67_4, hcz67_5, hfz67_5⟩ := bk6 BK266.out
        go_wp2_with (first | ((with_reducible refine gate_callee (f := 62) rfl ?_); refine gL (some 51) rfl rfl Try.func62 (by kernel_rfl) rfl #[.int .i64 a0_1] rfl ?_; (with_reducible refine (impl_isWord.calls a0_1 true _ A58.out).mono ?_); rintro e w' ⟨rfl, ⟨nd, rfl⟩⟩; refine ⟨_, rfl, ?_⟩) | (go_at_call 62; (with_reducible refine (impl_isWord.calls a0_5 true _ A60.out).mono ?_); rintro e w' ⟨rfl, ⟨nd, rfl⟩⟩) | (go_at_call 63; (with_reducible refine (impl_allWords.calls _ _ l0_3 true _ ?side1 ?side2 A62.out).mono ?_); (case side1 => repeat (first | exact (Kd.C_below HR0_3.out (bS HB.out)) | (with_reducible refine Kd.C_alloc ?_ _) | (with_reducible refine Kd.C_drewN ?_ _) | (with_reducible refine Kd.C_drew ?_))); (case side2 => exact HC0_3.out); rintro e w' ⟨rfl, ⟨nd, rfl⟩⟩))
        go_meet
        case rel => exact ⟨_, (decide ((wrap64 (a0_1 + a0_2)) > 65536)), (by first | rfl | (simp; done) | (simp [*]; done)), H', ⟨by have := HJ2.out; first | omega | exact Nat.le_refl _⟩, ⟨kX BK266.out⟩, ⟨kX BK273.out⟩, ⟨kX BK274.out⟩, ⟨kX BK275.out⟩, ⟨bS HB.out⟩⟩
       ·replace c63 := Bool.eq_false_iff.mpr c63
        subst c63
        have H1 : (impl_ReqOk.j1 kj2 true a0_0 a0_1 a0_2 l0_3 l0_4 a0_5) = some r := by rw [if_neg (show ¬ (false = true) by decide)] at H; exact H
        clear H
        have H := H1
        clear H1
        have H' := aM H
        clear H
        have hnb68 := NB266_273.out
        have hnc68 := NB273_266.out
        have hnb69 := NB266_274.out
        have hnc69 := NB274_266.out
        have hnb70 := NB266_275.out
        have hnc70 := NB275_266.out
        obtain ⟨hcz71_0, hfz71_0, hcz71_1, hfz71_1, hcz71_2, hfz71_2, hcz71_3, hfz71_3, hcz71_4, hfz71_4, hcz71_5, hfz71_5⟩ := bk6 BK266.out
        go_wp2_with (first | ((with_reducible refine gate_callee (f := 62) rfl ?_); refine gL (some 51) rfl rfl Try.func62 (by kernel_rfl) rfl #[.int .i64 a0_1] rfl ?_; (with_reducible refine (impl_isWord.calls a0_1 true _ A58.out).mono ?_); rintro e w' ⟨rfl, ⟨nd, rfl⟩⟩; refine ⟨_, rfl, ?_⟩) | (go_at_call 62; (with_reducible refine (impl_isWord.calls a0_5 true _ A60.out).mono ?_); rintro e w' ⟨rfl, ⟨nd, rfl⟩⟩) | (go_at_call 63; (with_reducible refine (impl_allWords.calls _ _ l0_3 false _ ?side1 ?side2 A62.out).mono ?_); (case side1 => repeat (first | exact (Kd.C_below HR0_3.out (bS HB.out)) | (with_reducible refine Kd.C_alloc ?_ _) | (with_reducible refine Kd.C_drewN ?_ _) | (with_reducible refine Kd.C_drew ?_))); (case side2 => exact HC0_3.out); rintro e w' ⟨rfl, ⟨nd, rfl⟩⟩))
        go_meet
        case rel => exact ⟨_, (true), (by first | rfl | (simp; done) | (simp [*]; done)), H', ⟨by have := HJ2.out; first | omega | exact Nat.le_refl _⟩, ⟨kX BK266.out⟩, ⟨kX BK273.out⟩, ⟨kX BK274.out⟩, ⟨kX BK275.out⟩, ⟨bS HB.out⟩⟩
      ·replace c61 := Bool.eq_false_iff.mpr c61
       subst c61
       have H1 : (impl_ReqOk.j1 kj2 true a0_0 a0_1 a0_2 l0_3 l0_4 a0_5) = some r := by rw [if_neg (show ¬ (false = true) by decide)] at H; exact H
       clear H
       have H := H1
       clear H1
       have H' := aM H
       clear H
       have hnb72 := NB266_273.out
       have hnc72 := NB273_266.out
       have hnb73 := NB266_274.out
       have hnc73 := NB274_266.out
       have hnb74 := NB266_275.out
       have hnc74 := NB275_266.out
       obtain ⟨hcz75_0, hfz75_0, hcz75_1, hfz75_1, hcz75_2, hfz75_2, hcz75_3, hfz75_3, hcz75_4, hfz75_4, hcz75_5, hfz75_5⟩ := bk6 BK266.out
       go_wp2_with (first | ((with_reducible refine gate_callee (f := 62) rfl ?_); refine gL (some 51) rfl rfl Try.func62 (by kernel_rfl) rfl #[.int .i64 a0_1] rfl ?_; (with_reducible refine (impl_isWord.calls a0_1 true _ A58.out).mono ?_); rintro e w' ⟨rfl, ⟨nd, rfl⟩⟩; refine ⟨_, rfl, ?_⟩) | (go_at_call 62; (with_reducible refine (impl_isWord.calls a0_5 false _ A60.out).mono ?_); rintro e w' ⟨rfl, ⟨nd, rfl⟩⟩))
       go_meet
       case rel => exact ⟨_, (true), (by first | rfl | (simp; done) | (simp [*]; done)), H', ⟨by have := HJ2.out; first | omega | exact Nat.le_refl _⟩, ⟨kX BK266.out⟩, ⟨kX BK273.out⟩, ⟨kX BK274.out⟩, ⟨kX BK275.out⟩, ⟨bS HB.out⟩⟩
     ·replace c59 := Bool.eq_false_iff.mpr c59
      subst c59
      have H1 : (impl_ReqOk.j1 kj2 true a0_0 a0_1 a0_2 l0_3 l0_4 a0_5) = some r := by rw [if_neg (show ¬ (false = true) by decide)] at H; exact H
      clear H
      have H := H1
      clear H1
      have H' := aM H
      clear H
      have hnb76 := NB266_273.out
      have hnc76 := NB273_266.out
      have hnb77 := NB266_274.out
      have hnc77 := NB274_266.out
      have hnb78 := NB266_275.out
      have hnc78 := NB275_266.out
      obtain ⟨hcz79_0, hfz79_0, hcz79_1, hfz79_1, hcz79_2, hfz79_2, hcz79_3, hfz79_3, hcz79_4, hfz79_4, hcz79_5, hfz79_5⟩ := bk6 BK266.out
      go_wp2_with (first | ((with_reducible refine gate_callee (f := 62) rfl ?_); refine gL (some 51) rfl rfl Try.func62 (by kernel_rfl) rfl #[.int .i64 a0_1] rfl ?_; (with_reducible refine (impl_isWord.calls a0_1 false _ A58.out).mono ?_); rintro e w' ⟨rfl, ⟨nd, rfl⟩⟩; refine ⟨_, rfl, ?_⟩))
      go_meet
      case rel => exact ⟨_, (true), (by first | rfl | (simp; done) | (simp [*]; done)), H', ⟨by have := HJ2.out; first | omega | exact Nat.le_refl _⟩, ⟨kX BK266.out⟩, ⟨kX BK273.out⟩, ⟨kX BK274.out⟩, ⟨kX BK275.out⟩, ⟨bS HB.out⟩⟩
    case rest =>
     clear HC57
     try clear c1
     try clear c2
     try clear p2
     try clear c3
     try clear c4
     try clear c5
     try clear c6
     try clear c10
     try clear c11
     try clear c12
     try clear c14
     try clear c15
     try clear c17
     try clear c20
     try clear c22
     try clear c24
     try clear c25
     try clear c26
     try clear c27
     try clear c28
     try clear c30
     try clear c31
     try clear c33
     try clear c36
     try clear c37
     try clear c38
     try clear c40
     try clear c41
     try clear c43
     try clear c45
     try clear c46
     try clear c47
     try clear c49
     try clear c50
     try clear c52
     try clear c53
     try clear c54
     try clear c56
     try clear hcz13_0
     try clear hcz13_1
     try clear hcz16_0
     try clear hcz16_1
     try clear hcz18_0
     try clear hcz18_1
     try clear hcz29_0
     try clear hcz29_1
     try clear hcz29_2
     try clear hcz29_3
     try clear hcz29_4
     try clear hcz29_5
     try clear hcz32_0
     try clear hcz32_1
     try clear hcz34_0
     try clear hcz34_1
     try clear hcz35_0
     try clear hcz35_1
     try clear hcz39_0
     try clear hcz39_1
     try clear hcz39_2
     try clear hcz39_3
     try clear hcz39_4
     try clear hcz39_5
     try clear hcz42_0
     try clear hcz42_1
     try clear hcz44_0
     try clear hcz44_1
     try clear hcz48_0
     try clear hcz48_1
     try clear hcz48_2
     try clear hcz48_3
     try clear hcz48_4
     try clear hcz48_5
     try clear hcz51_0
     try clear hcz51_1
     try clear hcz55_0
     try clear hcz55_1
     try clear hcz55_2
     try clear hcz55_3
     try clear hcz55_4
     try clear hcz55_5
     try clear hcz5_0
     try clear hcz5_1
     try clear hcz5_2
     try clear hcz5_3
     try clear hcz5_4
     try clear hcz5_5
     try clear hfz13_0
     try clear hfz13_1
     try clear hfz16_0
     try clear hfz16_1
     try clear hfz18_0
     try clear hfz18_1
     try clear hfz29_0
     try clear hfz29_1
     try clear hfz29_2
     try clear hfz29_3
     try clear hfz29_4
     try clear hfz29_5
     try clear hfz32_0
     try clear hfz32_1
     try clear hfz34_0
     try clear hfz34_1
     try clear hfz35_0
     try clear hfz35_1
     try clear hfz39_0
     try clear hfz39_1
     try clear hfz39_2
     try clear hfz39_3
     try clear hfz39_4
     try clear hfz39_5
     try clear hfz42_0
     try clear hfz42_1
     try clear hfz44_0
     try clear hfz44_1
     try clear hfz48_0
     try clear hfz48_1
     try clear hfz48_2
     try clear hfz48_3
     try clear hfz48_4
     try clear hfz48_5
     try clear hfz51_0
     try clear hfz51_1
     try clear hfz55_0
     try clear hfz55_1
     try clear hfz55_2
     try clear hfz55_3
     try clear hfz55_4
     try clear hfz55_5
     try clear hfz5_0
     try clear hfz5_1
     try clear hfz5_2
     try clear hfz5_3
     try clear hfz5_4
     try clear hfz5_5
     try clear p2
     obtain ⟨kq, x72_56, rfl, HA, HJ56, BK266, BK273, BK274, BK275, HB⟩ := hcut
     cases kq with
     | zero => exact absurd HA.out (by simp [impl_ReqOk.j1])
     | succ kj56 =>
      have H := HA.out
      clear HA
      simp only [impl_ReqOk.j1] at H
      by_cases c80 : x72_56 = true
      ·subst c80
       have H1 : (some false) = some r := by rw [if_pos rfl] at H; exact H
       clear H
       have H := H1
       clear H1
       obtain rfl := Option.some.inj H
       go_wp2
       go_ret
       exact ⟨by first | rfl | (simp [errW_none, errW_some] <;> rfl) | (simp [*, errW_none, errW_some] <;> rfl), bS HB.out⟩
      ·replace c80 := Bool.eq_false_iff.mpr c80
       subst c80
       have H1 : (if a0_0 = 23 then ((impl_written.f a0_0 a0_1 a0_2 l0_3 l0_4 a0_5).bind fun t283 => (some (decide ((wrap64 (a0_5 + t283)) ≤ 65536)))) else (if a0_5 = 0 then ((impl_written.f a0_0 a0_1 a0_2 l0_3 l0_4 a0_5).bind fun t284 => (some (decide ((wrap64 (a0_1 + t284)) ≤ 65536)))) else (some false))) = some r := by rw [if_neg (show ¬ (false = true) by decide)] at H; exact H
       clear H
       have H := H1
       clear H1
       by_cases c81 : a0_0 = 23
       ·rw [if_pos c81] at H
        have c81b0 : (a0_0 == 23) = true := beq_iff_eq.mpr c81
        have c81b1 : (a0_0 != 23) = false := bne_eq_false_iff_eq.mpr c81
        clear c81
        replace H := Option.bind_eq_some_iff.mp H
        obtain ⟨t283, A820, H⟩ := H
        replace H : (some (decide ((wrap64 (a0_5 + t283)) ≤ 65536))) = some r := H
        have A82 := aM A820
        clear A820
        obtain rfl := Option.some.inj H
        have hnb83 := NB266_273.out
        have hnc83 := NB273_266.out
        have hnb84 := NB266_274.out
        have hnc84 := NB274_266.out
        have hnb85 := NB266_275.out
        have hnc85 := NB275_266.out
        obtain ⟨hcz86_0, hfz86_0, hcz86_1, hfz86_1, hcz86_2, hfz86_2, hcz86_3, hfz86_3, hcz86_4, hfz86_4, hcz86_5, hfz86_5⟩ := bk6 BK266.out
        try go_wp2
        have n0_ := aM (blk_drew BK266.out)
        have n1_ := aM (blk_drew BK273.out)
        have n2_ := aM (blk_drew BK274.out)
        have n3_ := aM (blk_drew BK275.out)
        have n4_ := aM (below_drew1 HB.out)
        clear BK266
        clear BK273
        clear BK274
        clear BK275
        clear HB
        have BK266 := n0_
        have BK273 := n1_
        have BK274 := n2_
        have BK275 := n3_
        have HB := n4_
        clear n0_ n1_ n2_ n3_ n4_
        refine start_ (n := 7) (S := fun w' => w'.cell? ⟨gb266, 0, none⟩ = some (.int .i64 a0_0) ∧ w'.cell? ⟨gb266, 1, none⟩ = some (.int .i64 a0_1) ∧ w'.cell? ⟨gb266, 2, none⟩ = some (.int .i64 a0_2) ∧ w'.cell? ⟨gb266, 3, none⟩ = some (.slice A0_3 l0_3.length c0_3) ∧ w'.cell? ⟨gb266, 4, none⟩ = some (.slice A0_4 l0_4.length c0_4) ∧ w'.cell? ⟨gb266, 5, none⟩ = some (.int .i64 a0_5)) (ds := []) #[false, false, false, false, false, false, false] (by kernel_rfl) rfl rfl ⟨(blk_cell BK266.out 0).trans rfl, (blk_cell BK266.out 1).trans rfl, (blk_cell BK266.out 2).trans rfl, (blk_cell BK266.out 3).trans rfl, (blk_cell BK266.out 4).trans rfl, (blk_cell BK266.out 5).trans rfl⟩ (fun hHeld => ?_)
        generalize wc.drew = w87 at BK266 BK273 BK274 BK275 HB hHeld ⊢
        refine pure_ (i := 0) (N := some 76) (v := ?_) (a' := ?_) #[true, false, false, false, false, false, false] rfl rfl (by kernel_rfl) (fun _ _ _ h => h) (Or.inl ⟨by rfl, ?_⟩) ?_ ?_
        rotate_left
        ·intro w'
         go_simp
         with_reducible rfl
        rotate_left
        ·simp only [Act.put, List.setIfInBounds_toArray, List.set_cons_zero, List.set_cons_succ, i64_w, i32_w]
         rfl
        refine take_ (i := 1) (N := some 77) (v := ?_) (a' := ?_) #[true, true, false, false, false, false, false] rfl rfl (by kernel_rfl) (fun _ _ _ h => h) (Or.inl ⟨by rfl, ?_⟩) hHeld ?_ ?_
        rotate_left
        ·rintro w' ⟨s0, s1, s2, s3, s4, s5⟩
         go_simp
         with_reducible rfl
        rotate_left
        ·simp only [Act.put, List.setIfInBounds_toArray, List.set_cons_zero, List.set_cons_succ, i64_w, i32_w]
         rfl
        refine take_ (i := 2) (N := some 78) (v := ?_) (a' := ?_) #[true, true, true, false, false, false, false] rfl rfl (by kernel_rfl) (fun _ _ _ h => h) (Or.inl ⟨by rfl, ?_⟩) hHeld ?_ ?_
        rotate_left
        ·rintro w' ⟨s0, s1, s2, s3, s4, s5⟩
         go_simp
         with_reducible rfl
        rotate_left
        ·simp only [Act.put, List.setIfInBounds_toArray, List.set_cons_zero, List.set_cons_succ, i64_w, i32_w]
         rfl
        refine one_ (i := 3) (N := some 79) #[true, true, true, true, false, false, false] rfl rfl (by kernel_rfl) (by decide) (fun K hK => ?_)
        refine goes_ Try.func32 (by kernel_rfl) rfl #[.agg #[.int .i64 a0_0, .int .i64 a0_1, .int .i64 a0_2, .slice A0_3 l0_3.length c0_3, .slice A0_4 l0_4.length c0_4, .int .i64 a0_5]] (by rfl) rfl rfl (by (try simp only [List.map_toArray, List.map_cons, List.map_nil]); first | done | rfl | (simp only [List.length_drop, List.length_take]; rfl)) ?_
        with_reducible refine (impl_written.calls a0_0 a0_1 a0_2 _ _ l0_3 _ _ l0_4 a0_5 t283 _ ?side1 ?side2 ?side3 ?side4 A82.out).mono ?_
        (case side1 => exact cB HR0_3.out HB.out)
        (case side2 => exact HC0_3.out)
        (case side3 => exact cB HR0_4.out HB.out)
        (case side4 => exact HC0_4.out)
        rintro e w88 ⟨rfl, hb⟩
        refine ⟨_, rfl, ?_⟩
        have n0_ := aM (kB BK266.out hb)
        have n1_ := aM (kB BK273.out hb)
        have n2_ := aM (kB BK274.out hb)
        have n3_ := aM (kB BK275.out hb)
        have n4_ := aM (below_step (bS HB.out) hb)
        clear BK266
        clear BK273
        clear BK274
        clear BK275
        clear HB
        have BK266 := n0_
        have BK273 := n1_
        have BK274 := n2_
        have BK275 := n3_
        have HB := n4_
        clear n0_ n1_ n2_ n3_ n4_
        (try clear hb)
        (try clear hb2)
        (try clear hk)
        (try clear hi)
        refine hK.out _ _ ⟨(blk_cell BK266.out 0).trans rfl, (blk_cell BK266.out 1).trans rfl, (blk_cell BK266.out 2).trans rfl, (blk_cell BK266.out 3).trans rfl, (blk_cell BK266.out 4).trans rfl, (blk_cell BK266.out 5).trans rfl⟩ (fun hHeld => ?_)
        clear hK K
        refine norm_ (a' := ?_) ?_ ?_
        rotate_left
        ·show Act.put _ (some 79) _ = _
         simp only [Act.put, List.setIfInBounds_toArray, List.set_cons_zero, List.set_cons_succ, i64_w, i32_w]
         rfl
        refine pure_ (i := 4) (N := some 80) (v := ?_) (a' := ?_) #[true, true, true, true, true, false, false] rfl rfl (by kernel_rfl) (fun _ _ _ h => h) (Or.inl ⟨by rfl, ?_⟩) ?_ ?_
        rotate_left
        ·intro w'
         go_simp
         with_reducible rfl
        rotate_left
        ·simp only [Act.put, List.setIfInBounds_toArray, List.set_cons_zero, List.set_cons_succ, i64_w, i32_w]
         rfl
        refine pure_ (i := 5) (N := some 81) (v := ?_) (a' := ?_) #[true, true, true, true, true, true, false] rfl rfl (by kernel_rfl) (fun _ _ _ h => h) (Or.inl ⟨by rfl, ?_⟩) ?_ ?_
        rotate_left
        ·intro w'
         go_simp
         with_reducible rfl
        rotate_left
        ·simp only [Act.put, List.setIfInBounds_toArray, List.set_cons_zero, List.set_cons_succ, i64_w, i32_w]
         rfl
        refine pure_ (i := 6) (N := some 2) (v := ?_) (a' := ?_) #[true, true, true, true, true, true, true] rfl rfl (by kernel_rfl) (fun _ _ _ h => h) (Or.inl ⟨by rfl, ?_⟩) ?_ ?_
        rotate_left
        ·intro w'
         go_simp
         with_reducible rfl
        rotate_left
        ·simp only [Act.put, List.setIfInBounds_toArray, List.set_cons_zero, List.set_cons_succ, i64_w, i32_w]
         rfl
        refine done_ (by kernel_rfl) ?_
        try go_wp2
        go_ret
        exact ⟨by first | rfl | (simp [errW_none, errW_some] <;> rfl) | (simp [*, errW_none, errW_some] <;> rfl), bS HB.out⟩
       ·rw [if_neg c81] at H
        have c81b0 : (a0_0 == 23) = false := beq_eq_false_iff_ne.mpr c81
        have c81b1 : (a0_0 != 23) = true := bne_iff_ne.mpr c81
        by_cases c89 : a0_5 = 0
        ·rw [if_pos c89] at H
         have c89b0 : (a0_5 == 0) = true := beq_iff_eq.mpr c89
         have c89b1 : (a0_5 != 0) = false := bne_eq_false_iff_eq.mpr c89
         clear c89
         replace H := Option.bind_eq_some_iff.mp H
         obtain ⟨t284, A900, H⟩ := H
         replace H : (some (decide ((wrap64 (a0_1 + t284)) ≤ 65536))) = some r := H
         have A90 := aM A900
         clear A900
         obtain rfl := Option.some.inj H
         have hnb91 := NB266_273.out
         have hnc91 := NB273_266.out
         have hnb92 := NB266_274.out
         have hnc92 := NB274_266.out
         have hnb93 := NB266_275.out
         have hnc93 := NB275_266.out
         obtain ⟨hcz94_0, hfz94_0, hcz94_1, hfz94_1, hcz94_2, hfz94_2, hcz94_3, hfz94_3, hcz94_4, hfz94_4, hcz94_5, hfz94_5⟩ := bk6 BK266.out
         try go_wp2
         have n0_ := aM (blk_drew BK266.out)
         have n1_ := aM (blk_drew BK273.out)
         have n2_ := aM (blk_drew BK274.out)
         have n3_ := aM (blk_drew BK275.out)
         have n4_ := aM (below_drew1 HB.out)
         clear BK266
         clear BK273
         clear BK274
         clear BK275
         clear HB
         have BK266 := n0_
         have BK273 := n1_
         have BK274 := n2_
         have BK275 := n3_
         have HB := n4_
         clear n0_ n1_ n2_ n3_ n4_
         refine start_ (n := 12) (S := fun w' => w'.cell? ⟨gb266, 0, none⟩ = some (.int .i64 a0_0) ∧ w'.cell? ⟨gb266, 1, none⟩ = some (.int .i64 a0_1) ∧ w'.cell? ⟨gb266, 2, none⟩ = some (.int .i64 a0_2) ∧ w'.cell? ⟨gb266, 3, none⟩ = some (.slice A0_3 l0_3.length c0_3) ∧ w'.cell? ⟨gb266, 4, none⟩ = some (.slice A0_4 l0_4.length c0_4) ∧ w'.cell? ⟨gb266, 5, none⟩ = some (.int .i64 a0_5)) (ds := []) #[false, false, false, false, false, false, false, false, false, false, false, false] (by kernel_rfl) rfl rfl ⟨(blk_cell BK266.out 0).trans rfl, (blk_cell BK266.out 1).trans rfl, (blk_cell BK266.out 2).trans rfl, (blk_cell BK266.out 3).trans rfl, (blk_cell BK266.out 4).trans rfl, (blk_cell BK266.out 5).trans rfl⟩ (fun hHeld => ?_); refine with_tabW impl_ReqOk.tab8 impl_ReqOk.bits8 (fun HT_ HW_ => ?_)
         generalize wc.drew = w95 at BK266 BK273 BK274 BK275 HB hHeld ⊢
         refine pure_ (i := 0) (N := some 82) (v := ?_) (a' := ?_) #[true, false, false, false, false, false, false, false, false, false, false, false] rfl rfl (any_of HT_.out (by kernel_rfl)) (fun _ _ _ h => h) (Or.inl ⟨by rfl, ?_⟩) ?_ ?_
         rotate_left
         ·intro w'
          go_simp
          with_reducible rfl
         rotate_left
         ·simp only [Act.put, List.setIfInBounds_toArray, List.set_cons_zero, List.set_cons_succ, i64_w, i32_w]
          rfl
         refine take_ (i := 1) (N := some 83) (v := ?_) (a' := ?_) #[true, true, false, false, false, false, false, false, false, false, false, false] rfl rfl (take_ofW HT_.out HW_.out (by kernel_rfl)) (fun _ _ _ h => h) (Or.inl ⟨by rfl, ?_⟩) hHeld ?_ ?_
         rotate_left
         ·rintro w' ⟨s0, s1, s2, s3, s4, s5⟩
          go_simp
          with_reducible rfl
         rotate_left
         ·simp only [Act.put, List.setIfInBounds_toArray, List.set_cons_zero, List.set_cons_succ, i64_w, i32_w]
          rfl
         refine pure_ (i := 2) (N := some 84) (v := ?_) (a' := ?_) #[true, true, true, false, false, false, false, false, false, false, false, false] rfl rfl (any_of HT_.out (by kernel_rfl)) (fun _ _ _ h => h) (Or.inl ⟨by rfl, ?_⟩) ?_ ?_
         rotate_left
         ·intro w'
          go_simp
          with_reducible rfl
         rotate_left
         ·simp only [Act.put, List.setIfInBounds_toArray, List.set_cons_zero, List.set_cons_succ, i64_w, i32_w]
          rfl
         refine pure_ (i := 3) (N := some 85) (v := ?_) (a' := ?_) #[true, true, true, true, false, false, false, false, false, false, false, false] rfl rfl (any_of HT_.out (by kernel_rfl)) (fun _ _ _ h => h) (Or.inl ⟨by rfl, ?_⟩) ?_ ?_
         rotate_left
         ·intro w'
          go_simp
          with_reducible rfl
         rotate_left
         ·simp only [Act.put, List.setIfInBounds_toArray, List.set_cons_zero, List.set_cons_succ, i64_w, i32_w]
          rfl
         refine pure_ (i := 4) (N := some 86) (v := ?_) (a' := ?_) #[true, true, true, true, true, false, false, false, false, false, false, false] rfl rfl (any_of HT_.out (by kernel_rfl)) (fun _ _ _ h => h) (Or.inl ⟨by rfl, ?_⟩) ?_ ?_
         rotate_left
         ·intro w'
          go_simp
          with_reducible rfl
         rotate_left
         ·simp only [Act.put, List.setIfInBounds_toArray, List.set_cons_zero, List.set_cons_succ, i64_w, i32_w]
          rfl
         refine take_ (i := 5) (N := some 87) (v := ?_) (a' := ?_) #[true, true, true, true, true, true, false, false, false, false, false, false] rfl rfl (take_ofW HT_.out HW_.out (by kernel_rfl)) (fun _ _ _ h => h) (Or.inl ⟨by rfl, ?_⟩) hHeld ?_ ?_
         rotate_left
         ·rintro w' ⟨s0, s1, s2, s3, s4, s5⟩
          go_simp
          with_reducible rfl
         rotate_left
         ·simp only [Act.put, List.setIfInBounds_toArray, List.set_cons_zero, List.set_cons_succ, i64_w, i32_w]
          rfl
         refine take_ (i := 6) (N := some 88) (v := ?_) (a' := ?_) #[true, true, true, true, true, true, true, false, false, false, false, false] rfl rfl (take_ofW HT_.out HW_.out (by kernel_rfl)) (fun _ _ _ h => h) (Or.inl ⟨by rfl, ?_⟩) hHeld ?_ ?_
         rotate_left
         ·rintro w' ⟨s0, s1, s2, s3, s4, s5⟩
          go_simp
          with_reducible rfl
         rotate_left
         ·simp only [Act.put, List.setIfInBounds_toArray, List.set_cons_zero, List.set_cons_succ, i64_w, i32_w]
          rfl
         refine one_ (i := 7) (N := some 89) #[true, true, true, true, true, true, true, true, false, false, false, false] rfl rfl (one_of HT_.out (by kernel_rfl)) (by decide) (fun K hK => ?_)
         refine goes_ Try.func32 (by kernel_rfl) rfl #[.agg #[.int .i64 a0_0, .int .i64 a0_1, .int .i64 a0_2, .slice A0_3 l0_3.length c0_3, .slice A0_4 l0_4.length c0_4, .int .i64 a0_5]] (by rfl) rfl rfl (by (try simp only [List.map_toArray, List.map_cons, List.map_nil]); first | done | rfl | (simp only [List.length_drop, List.length_take]; rfl)) ?_
         with_reducible refine (impl_written.calls a0_0 a0_1 a0_2 _ _ l0_3 _ _ l0_4 a0_5 t284 _ ?side1 ?side2 ?side3 ?side4 A90.out).mono ?_
         (case side1 => exact cB HR0_3.out HB.out)
         (case side2 => exact HC0_3.out)
         (case side3 => exact cB HR0_4.out HB.out)
         (case side4 => exact HC0_4.out)
         rintro e w96 ⟨rfl, hb⟩
         refine ⟨_, rfl, ?_⟩
         have n0_ := aM (kB BK266.out hb)
         have n1_ := aM (kB BK273.out hb)
         have n2_ := aM (kB BK274.out hb)
         have n3_ := aM (kB BK275.out hb)
         have n4_ := aM (below_step (bS HB.out) hb)
         clear BK266
         clear BK273
         clear BK274
         clear BK275
         clear HB
         have BK266 := n0_
         have BK273 := n1_
         have BK274 := n2_
         have BK275 := n3_
         have HB := n4_
         clear n0_ n1_ n2_ n3_ n4_
         (try clear hb)
         (try clear hb2)
         (try clear hk)
         (try clear hi)
         refine hK.out _ _ ⟨(blk_cell BK266.out 0).trans rfl, (blk_cell BK266.out 1).trans rfl, (blk_cell BK266.out 2).trans rfl, (blk_cell BK266.out 3).trans rfl, (blk_cell BK266.out 4).trans rfl, (blk_cell BK266.out 5).trans rfl⟩ (fun hHeld => ?_)
         clear hK K
         refine norm_ (a' := ?_) ?_ ?_
         rotate_left
         ·show Act.put _ (some 89) _ = _
          simp only [Act.put, List.setIfInBounds_toArray, List.set_cons_zero, List.set_cons_succ, i64_w, i32_w]
          rfl
         refine pure_ (i := 8) (N := some 90) (v := ?_) (a' := ?_) #[true, true, true, true, true, true, true, true, true, false, false, false] rfl rfl (any_of HT_.out (by kernel_rfl)) (fun _ _ _ h => h) (Or.inl ⟨by rfl, ?_⟩) ?_ ?_
         rotate_left
         ·intro w'
          go_simp
          with_reducible rfl
         rotate_left
         ·simp only [Act.put, List.setIfInBounds_toArray, List.set_cons_zero, List.set_cons_succ, i64_w, i32_w]
          rfl
         refine pure_ (i := 9) (N := some 91) (v := ?_) (a' := ?_) #[true, true, true, true, true, true, true, true, true, true, false, false] rfl rfl (any_of HT_.out (by kernel_rfl)) (fun _ _ _ h => h) (Or.inl ⟨by rfl, ?_⟩) ?_ ?_
         rotate_left
         ·intro w'
          go_simp
          with_reducible rfl
         rotate_left
         ·simp only [Act.put, List.setIfInBounds_toArray, List.set_cons_zero, List.set_cons_succ, i64_w, i32_w]
          rfl
         refine pure_ (i := 10) (N := some 92) (v := ?_) (a' := ?_) #[true, true, true, true, true, true, true, true, true, true, true, false] rfl rfl (any_of HT_.out (by kernel_rfl)) (fun _ _ _ h => h) (Or.inl ⟨by rfl, ?_⟩) ?_ ?_
         rotate_left
         ·intro w'
          go_simp
          with_reducible rfl
         rotate_left
         ·simp only [Act.put, List.setIfInBounds_toArray, List.set_cons_zero, List.set_cons_succ, i64_w, i32_w]
          rfl
         refine pure_ (i := 11) (N := some 2) (v := ?_) (a' := ?_) #[true, true, true, true, true, true, true, true, true, true, true, true] rfl rfl (any_of HT_.out (by kernel_rfl)) (fun _ _ _ h => h) (Or.inl ⟨by rfl, ?_⟩) ?_ ?_
         rotate_left
         ·intro w'
          go_simp
          with_reducible rfl
         rotate_left
         ·simp only [Act.put, List.setIfInBounds_toArray, List.set_cons_zero, List.set_cons_succ, i64_w, i32_w]
          rfl
         refine done_ (done_of HT_.out (by kernel_rfl)) ?_
         try go_wp2
         go_ret
         exact ⟨by first | rfl | (simp [errW_none, errW_some] <;> rfl) | (simp [*, errW_none, errW_some] <;> rfl), bS HB.out⟩
        ·rw [if_neg c89] at H
         have c89b0 : (a0_5 == 0) = false := beq_eq_false_iff_ne.mpr c89
         have c89b1 : (a0_5 != 0) = true := bne_iff_ne.mpr c89
         obtain rfl := Option.some.inj H
         have hnb97 := NB266_273.out
         have hnc97 := NB273_266.out
         have hnb98 := NB266_274.out
         have hnc98 := NB274_266.out
         have hnb99 := NB266_275.out
         have hnc99 := NB275_266.out
         obtain ⟨hcz100_0, hfz100_0, hcz100_1, hfz100_1, hcz100_2, hfz100_2, hcz100_3, hfz100_3, hcz100_4, hfz100_4, hcz100_5, hfz100_5⟩ := bk6 BK266.out
         try go_wp2
         have n0_ := aM (blk_drew BK266.out)
         have n1_ := aM (blk_drew BK273.out)
         have n2_ := aM (blk_drew BK274.out)
         have n3_ := aM (blk_drew BK275.out)
         have n4_ := aM (below_drew1 HB.out)
         clear BK266
         clear BK273
         clear BK274
         clear BK275
         clear HB
         have BK266 := n0_
         have BK273 := n1_
         have BK274 := n2_
         have BK275 := n3_
         have HB := n4_
         clear n0_ n1_ n2_ n3_ n4_
         refine start_ (n := 12) (S := fun w' => w'.cell? ⟨gb266, 0, none⟩ = some (.int .i64 a0_0) ∧ w'.cell? ⟨gb266, 1, none⟩ = some (.int .i64 a0_1) ∧ w'.cell? ⟨gb266, 2, none⟩ = some (.int .i64 a0_2) ∧ w'.cell? ⟨gb266, 3, none⟩ = some (.slice A0_3 l0_3.length c0_3) ∧ w'.cell? ⟨gb266, 4, none⟩ = some (.slice A0_4 l0_4.length c0_4) ∧ w'.cell? ⟨gb266, 5, none⟩ = some (.int .i64 a0_5)) (ds := []) #[false, false, false, false, false, false, false, false, false, false, false, false] (by kernel_rfl) rfl rfl ⟨(blk_cell BK266.out 0).trans rfl, (blk_cell BK266.out 1).trans rfl, (blk_cell BK266.out 2).trans rfl, (blk_cell BK266.out 3).trans rfl, (blk_cell BK266.out 4).trans rfl, (blk_cell BK266.out 5).trans rfl⟩ (fun hHeld => ?_); refine with_tabW impl_ReqOk.tab8 impl_ReqOk.bits8 (fun HT_ HW_ => ?_)
         generalize wc.drew = w101 at BK266 BK273 BK274 BK275 HB hHeld ⊢
         refine pure_ (i := 0) (N := some 82) (v := ?_) (a' := ?_) #[true, false, false, false, false, false, false, false, false, false, false, false] rfl rfl (any_of HT_.out (by kernel_rfl)) (fun _ _ _ h => h) (Or.inl ⟨by rfl, ?_⟩) ?_ ?_
         rotate_left
         ·intro w'
          go_simp
          with_reducible rfl
         rotate_left
         ·simp only [Act.put, List.setIfInBounds_toArray, List.set_cons_zero, List.set_cons_succ, i64_w, i32_w]
          rfl
         refine take_ (i := 1) (N := some 83) (v := ?_) (a' := ?_) #[true, true, false, false, false, false, false, false, false, false, false, false] rfl rfl (take_ofW HT_.out HW_.out (by kernel_rfl)) (fun _ _ _ h => h) (Or.inl ⟨by rfl, ?_⟩) hHeld ?_ ?_
         rotate_left
         ·rintro w' ⟨s0, s1, s2, s3, s4, s5⟩
          go_simp
          with_reducible rfl
         rotate_left
         ·simp only [Act.put, List.setIfInBounds_toArray, List.set_cons_zero, List.set_cons_succ, i64_w, i32_w]
          rfl
         refine pure_ (i := 2) (N := some 84) (v := ?_) (a' := ?_) #[true, true, true, false, false, false, false, false, false, false, false, false] rfl rfl (any_of HT_.out (by kernel_rfl)) (fun _ _ _ h => h) (Or.inl ⟨by rfl, ?_⟩) ?_ ?_
         rotate_left
         ·intro w'
          go_simp
          with_reducible rfl
         rotate_left
         ·simp only [Act.put, List.setIfInBounds_toArray, List.set_cons_zero, List.set_cons_succ, i64_w, i32_w]
          rfl
         refine pure_ (i := 3) (N := some 85) (v := ?_) (a' := ?_) #[true, true, true, true, false, false, false, false, false, false, false, false] rfl rfl (any_of HT_.out (by kernel_rfl)) (fun _ _ _ h => h) (Or.inl ⟨by rfl, ?_⟩) ?_ ?_
         rotate_left
         ·intro w'
          go_simp
          with_reducible rfl
         rotate_left
         ·simp only [Act.put, List.setIfInBounds_toArray, List.set_cons_zero, List.set_cons_succ, i64_w, i32_w]
          rfl
         refine pure_ (i := 4) (N := some 86) (v := undef) (a' := ?_) #[true, true, true, true, true, false, false, false, false, false, false, false] rfl rfl (any_of HT_.out (by kernel_rfl)) (fun _ _ _ h => h) (Or.inr ⟨by rfl, rfl⟩) ?_ ?_
         rotate_left
         ·simp only [Act.put, List.setIfInBounds_toArray, List.set_cons_zero, List.set_cons_succ, i64_w, i32_w]
          rfl
         refine pure_ (i := 5) (N := some 87) (v := undef) (a' := ?_) #[true, true, true, true, true, true, false, false, false, false, false, false] rfl rfl (any_of HT_.out (by kernel_rfl)) (fun _ _ _ h => h) (Or.inr ⟨by rfl, rfl⟩) ?_ ?_
         rotate_left
         ·simp only [Act.put, List.setIfInBounds_toArray, List.set_cons_zero, List.set_cons_succ, i64_w, i32_w]
          rfl
         refine pure_ (i := 6) (N := some 88) (v := undef) (a' := ?_) #[true, true, true, true, true, true, true, false, false, false, false, false] rfl rfl (any_of HT_.out (by kernel_rfl)) (fun _ _ _ h => h) (Or.inr ⟨by rfl, rfl⟩) ?_ ?_
         rotate_left
         ·simp only [Act.put, List.setIfInBounds_toArray, List.set_cons_zero, List.set_cons_succ, i64_w, i32_w]
          rfl
         refine pure_ (i := 7) (N := some 89) (v := undef) (a' := ?_) #[true, true, true, true, true, true, true, true, false, false, false, false] rfl rfl (any_of HT_.out (by kernel_rfl)) (fun _ _ _ h => h) (Or.inr ⟨by rfl, rfl⟩) ?_ ?_
         rotate_left
         ·simp only [Act.put, List.setIfInBounds_toArray, List.set_cons_zero, List.set_cons_succ, i64_w, i32_w]
          rfl
         refine pure_ (i := 8) (N := some 90) (v := undef) (a' := ?_) #[true, true, true, true, true, true, true, true, true, false, false, false] rfl rfl (any_of HT_.out (by kernel_rfl)) (fun _ _ _ h => h) (Or.inr ⟨by rfl, rfl⟩) ?_ ?_
         rotate_left
         ·simp only [Act.put, List.setIfInBounds_toArray, List.set_cons_zero, List.set_cons_succ, i64_w, i32_w]
          rfl
         refine pure_ (i := 9) (N := some 91) (v := undef) (a' := ?_) #[true, true, true, true, true, true, true, true, true, true, false, false] rfl rfl (any_of HT_.out (by kernel_rfl)) (fun _ _ _ h => h) (Or.inr ⟨by rfl, rfl⟩) ?_ ?_
         rotate_left
         ·simp only [Act.put, List.setIfInBounds_toArray, List.set_cons_zero, List.set_cons_succ, i64_w, i32_w]
          rfl
         refine pure_ (i := 10) (N := some 92) (v := ?_) (a' := ?_) #[true, true, true, true, true, true, true, true, true, true, true, false] rfl rfl (any_of HT_.out (by kernel_rfl)) (fun _ _ _ h => h) (Or.inl ⟨by rfl, ?_⟩) ?_ ?_
         rotate_left
         ·intro w'
          go_simp
          with_reducible rfl
         rotate_left
         ·simp only [Act.put, List.setIfInBounds_toArray, List.set_cons_zero, List.set_cons_succ, i64_w, i32_w]
          rfl
         refine pure_ (i := 11) (N := some 2) (v := ?_) (a' := ?_) #[true, true, true, true, true, true, true, true, true, true, true, true] rfl rfl (any_of HT_.out (by kernel_rfl)) (fun _ _ _ h => h) (Or.inl ⟨by rfl, ?_⟩) ?_ ?_
         rotate_left
         ·intro w'
          go_simp
          with_reducible rfl
         rotate_left
         ·simp only [Act.put, List.setIfInBounds_toArray, List.set_cons_zero, List.set_cons_succ, i64_w, i32_w]
          rfl
         refine done_ (done_of HT_.out (by kernel_rfl)) ?_
         try go_wp2
         go_ret
         exact ⟨by first | rfl | (simp [errW_none, errW_some] <;> rfl) | (simp [*, errW_none, errW_some] <;> rfl), bS HB.out⟩

end Go.Proofs.Yteoghpcgompajaa.PFnExactPutReq
