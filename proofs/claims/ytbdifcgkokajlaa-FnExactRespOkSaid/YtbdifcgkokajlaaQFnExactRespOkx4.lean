/- Functions and contracts of the law FnExactRespOk: what the Go text computes, step by step. -/
import Derived.Test.YtbdifcgkokajlaaQFnExactRespOkx0
import Derived.Test.YtbdifcgkokajlaaQFnExactRespOkx3
namespace Go.Proofs.Ytbdifcgkokajlaa.PFnExactRespOk
open Go.Proofs.Ytbdifcgkokajlaa.G Go.RowKit Go.Proofs.YtbdifcgkokajlaaW.PrintWords Go.Proofs.YtbdifcgkokajlaaW.PrintLast Go.Proofs.YtbdifcgkokajlaaW.PrintMore
attribute [local go_sem] max2_int min2_int max_two min_two max_three min_three max_four min_four   -- for this text's walks alone
set_option linter.unusedVariables false
set_option linter.unusedSimpArgs false

/-! ### impl_RespOk: function 11 -/
def impl_RespOk.j0 : Nat → Int → Bool → Bool → Int → Int → Int → Int → List Int → List Bool → Int → Int → Option (Bool)
  | 0, _, _, _, _, _, _, _, _, _, _, _ => none
  | k + 1, x5, x6, x49, x151000, x151001, x151002, x151003, x151004, x151005, x161000, x161001 => if x49 = true then (some false) else (if x161001 > 1 then (if ((x151005.length : Int) % 8) = 0 then (if x5 = 0 then (if x151003 = 0 then (if x5 > 0 then ((impl_in.f x151003 1 x5).bind fun t164 => (if t164 = true then (if x6 = true then ((impl_isWord.f x151002).bind fun t165 => (if t165 = true then (some true) else (some (x151002 == 0)))) else (some (x151002 == 0))) else (some false))) else (if x6 = true then ((impl_isWord.f x151002).bind fun t166 => (if t166 = true then (some true) else (some (x151002 == 0)))) else (some (x151002 == 0)))) else (some false)) else (if x5 > 0 then ((impl_in.f x151003 1 x5).bind fun t167 => (if t167 = true then (if x6 = true then ((impl_isWord.f x151002).bind fun t168 => (if t168 = true then (some true) else (some (x151002 == 0)))) else (some (x151002 == 0))) else (some false))) else (if x6 = true then ((impl_isWord.f x151002).bind fun t169 => (if t169 = true then (some true) else (some (x151002 == 0)))) else (some (x151002 == 0))))) else (some false)) else (if x5 = 0 then (if x151003 = 0 then (if x5 > 0 then ((impl_in.f x151003 1 x5).bind fun t170 => (if t170 = true then (if x6 = true then ((impl_isWord.f x151002).bind fun t171 => (if t171 = true then (some true) else (some (x151002 == 0)))) else (some (x151002 == 0))) else (some false))) else (if x6 = true then ((impl_isWord.f x151002).bind fun t172 => (if t172 = true then (some true) else (some (x151002 == 0)))) else (some (x151002 == 0)))) else (some false)) else (if x5 > 0 then ((impl_in.f x151003 1 x5).bind fun t173 => (if t173 = true then (if x6 = true then ((impl_isWord.f x151002).bind fun t174 => (if t174 = true then (some true) else (some (x151002 == 0)))) else (some (x151002 == 0))) else (some false))) else (if x6 = true then ((impl_isWord.f x151002).bind fun t175 => (if t175 = true then (some true) else (some (x151002 == 0)))) else (some (x151002 == 0))))))
def impl_RespOk.f (k : Nat) (a0_0 : Int) (a0_1 : Int) (a0_2 : Int) (a0_3 : Int) (l0_4 : List Int) (l0_5 : List Bool) : Option (Bool) := (impl_isKind.f a0_0).bind fun t151 => (if t151 = true then (if a0_1 = 0 then ((impl_shape.f k a0_0).bind fun bt153 => ((impl_in.f (l0_4.length : Int) bt153.1 bt153.2.1).bind fun t161 => (if t161 = true then ((impl_in.f (l0_5.length : Int) bt153.2.2.1 bt153.2.2.2.1).bind fun t162 => (if t162 = true then ((impl_allWords.f l0_4).bind fun t163 => (impl_RespOk.j0 k bt153.2.2.2.2.1 bt153.2.2.2.2.2 (!t163) a0_0 a0_1 a0_2 a0_3 l0_4 l0_5 bt153.2.2.1 bt153.2.2.2.1)) else (impl_RespOk.j0 k bt153.2.2.2.2.1 bt153.2.2.2.2.2 true a0_0 a0_1 a0_2 a0_3 l0_4 l0_5 bt153.2.2.1 bt153.2.2.2.1))) else (impl_RespOk.j0 k bt153.2.2.2.2.1 bt153.2.2.2.2.2 true a0_0 a0_1 a0_2 a0_3 l0_4 l0_5 bt153.2.2.1 bt153.2.2.2.1)))) else ((impl_isFault.f a0_0 a0_1 a0_2 a0_3 l0_4 l0_5).bind fun t152 => (some t152))) else (some false))
theorem impl_RespOk.mono_l : ∀ k, (∀ y0 y1 y2 y3 y4 y5 y6 y7 y8 y9 y10, LeO (impl_RespOk.j0 k y0 y1 y2 y3 y4 y5 y6 y7 y8 y9 y10) (impl_RespOk.j0 (k + 1) y0 y1 y2 y3 y4 y5 y6 y7 y8 y9 y10))
  | 0 => fun _ _ _ _ _ _ _ _ _ _ _ r h => by simp [impl_RespOk.j0] at h
  | k + 1 => by
    have ih0 := impl_RespOk.mono_l k
    · intro y0 y1 y2 y3 y4 y5 y6 y7 y8 y9 y10
      unfold impl_RespOk.j0
      repeat' first
      | (with_reducible exact ih0 _ _ _ _ _ _ _ _ _ _ _)
      | (with_reducible exact impl_shape.mono _ _)
      | (with_reducible exact LeO.refl _)
      | (with_reducible exact LeO.none _)
      | (with_reducible refine LeO.ite ?_ ?_)
      | (with_reducible refine LeO.bind ?_ (fun _ => ?_))
      | exact ih0 _ _ _ _ _ _ _ _ _ _ _
      | exact impl_shape.mono _ _
      | exact LeO.none _
      | refine LeO.ite ?_ ?_
      | refine LeO.bind ?_ (fun _ => ?_)
theorem impl_RespOk.mono : ∀ a0 a1 a2 a3 a4 a5 k, LeO (impl_RespOk.f k a0 a1 a2 a3 a4 a5) (impl_RespOk.f (k + 1) a0 a1 a2 a3 a4 a5) := by
  intro a0 a1 a2 a3 a4 a5 k
  have ih0 := impl_RespOk.mono_l k
  unfold impl_RespOk.f
  repeat' first
      | (with_reducible exact ih0 _ _ _ _ _ _ _ _ _ _ _)
      | (with_reducible exact impl_shape.mono _ _)
      | (with_reducible exact LeO.refl _)
      | (with_reducible exact LeO.none _)
      | (with_reducible refine LeO.ite ?_ ?_)
      | (with_reducible refine LeO.bind ?_ (fun _ => ?_))
      | exact ih0 _ _ _ _ _ _ _ _ _ _ _
      | exact impl_shape.mono _ _
      | exact LeO.none _
      | refine LeO.ite ?_ ?_
      | refine LeO.bind ?_ (fun _ => ?_)
set_option maxHeartbeats 8000000 in
set_option maxRecDepth 100000 in
theorem impl_RespOk.calls (k : Nat) (a0_0 : Int) (a0_1 : Int) (a0_2 : Int) (a0_3 : Int) (A0_4 : Option Addr) (c0_4 : Nat) (l0_4 : List Int) (A0_5 : Option Addr) (c0_5 : Nat) (l0_5 : List Bool) (r : Bool) (w : World) (hr0_4 : Kd.C (Kd.int .i64) w A0_4 l0_4.length l0_4) (hc0_4 : l0_4.length ≤ c0_4) (hr0_5 : Kd.C Kd.bool w A0_5 l0_5.length l0_5) (hc0_5 : l0_5.length ≤ c0_5) (h : impl_RespOk.f k a0_0 a0_1 a0_2 a0_3 l0_4 l0_5 = some r) :
    Calls Try.prog 11 #[.agg #[.int .i64 a0_0, .int .i64 a0_1, .int .i64 a0_2, .int .i64 a0_3, .slice A0_4 l0_4.length c0_4, .slice A0_5 l0_5.length c0_5]] w fun e w' => e = .returned (.bool r) ∧ Below w.heap.size w w' := by
  have hu28 := Try.underlying28
  have hu65 := Try.underlying65
  have HR0_4 := Aside0.mk hr0_4
  have HC0_4 := Aside0.mk hc0_4
  clear hr0_4 hc0_4
  have HR0_5 := Aside0.mk hr0_5
  have HC0_5 := Aside0.mk hc0_5
  clear hr0_5 hc0_5
  have HB := Aside0.mk (Below.refl w.heap.size w)
  have H : ((impl_isKind.f a0_0).bind fun t151 => (if t151 = true then (if a0_1 = 0 then ((impl_shape.f k a0_0).bind fun bt153 => ((impl_in.f (l0_4.length : Int) bt153.1 bt153.2.1).bind fun t161 => (if t161 = true then ((impl_in.f (l0_5.length : Int) bt153.2.2.1 bt153.2.2.2.1).bind fun t162 => (if t162 = true then ((impl_allWords.f l0_4).bind fun t163 => (impl_RespOk.j0 k bt153.2.2.2.2.1 bt153.2.2.2.2.2 (!t163) a0_0 a0_1 a0_2 a0_3 l0_4 l0_5 bt153.2.2.1 bt153.2.2.2.1)) else (impl_RespOk.j0 k bt153.2.2.2.2.1 bt153.2.2.2.2.2 true a0_0 a0_1 a0_2 a0_3 l0_4 l0_5 bt153.2.2.1 bt153.2.2.2.1))) else (impl_RespOk.j0 k bt153.2.2.2.2.1 bt153.2.2.2.2.2 true a0_0 a0_1 a0_2 a0_3 l0_4 l0_5 bt153.2.2.1 bt153.2.2.2.1)))) else ((impl_isFault.f a0_0 a0_1 a0_2 a0_3 l0_4 l0_5).bind fun t152 => (some t152))) else (some false))) = some r := h
  clear h
  replace H := Option.bind_eq_some_iff.mp H
  obtain ⟨t151, A20, H⟩ := H
  replace H : (if t151 = true then (if a0_1 = 0 then ((impl_shape.f k a0_0).bind fun bt153 => ((impl_in.f (l0_4.length : Int) bt153.1 bt153.2.1).bind fun t161 => (if t161 = true then ((impl_in.f (l0_5.length : Int) bt153.2.2.1 bt153.2.2.2.1).bind fun t162 => (if t162 = true then ((impl_allWords.f l0_4).bind fun t163 => (impl_RespOk.j0 k bt153.2.2.2.2.1 bt153.2.2.2.2.2 (!t163) a0_0 a0_1 a0_2 a0_3 l0_4 l0_5 bt153.2.2.1 bt153.2.2.2.1)) else (impl_RespOk.j0 k bt153.2.2.2.2.1 bt153.2.2.2.2.2 true a0_0 a0_1 a0_2 a0_3 l0_4 l0_5 bt153.2.2.1 bt153.2.2.2.1))) else (impl_RespOk.j0 k bt153.2.2.2.2.1 bt153.2.2.2.2.2 true a0_0 a0_1 a0_2 a0_3 l0_4 l0_5 bt153.2.2.1 bt153.2.2.2.1)))) else ((impl_isFault.f a0_0 a0_1 a0_2 a0_3 l0_4 l0_5).bind fun t152 => (some t152))) else (some false)) = some r := H
  have A2 := Aside0.mk A20
  clear A20
  by_cases c3 : t151 = true
  · subst c3
    have H1 : (if a0_1 = 0 then ((impl_shape.f k a0_0).bind fun bt153 => ((impl_in.f (l0_4.length : Int) bt153.1 bt153.2.1).bind fun t161 => (if t161 = true then ((impl_in.f (l0_5.length : Int) bt153.2.2.1 bt153.2.2.2.1).bind fun t162 => (if t162 = true then ((impl_allWords.f l0_4).bind fun t163 => (impl_RespOk.j0 k bt153.2.2.2.2.1 bt153.2.2.2.2.2 (!t163) a0_0 a0_1 a0_2 a0_3 l0_4 l0_5 bt153.2.2.1 bt153.2.2.2.1)) else (impl_RespOk.j0 k bt153.2.2.2.2.1 bt153.2.2.2.2.2 true a0_0 a0_1 a0_2 a0_3 l0_4 l0_5 bt153.2.2.1 bt153.2.2.2.1))) else (impl_RespOk.j0 k bt153.2.2.2.2.1 bt153.2.2.2.2.2 true a0_0 a0_1 a0_2 a0_3 l0_4 l0_5 bt153.2.2.1 bt153.2.2.2.1)))) else ((impl_isFault.f a0_0 a0_1 a0_2 a0_3 l0_4 l0_5).bind fun t152 => (some t152))) = some r := by rw [if_pos rfl] at H; exact H
    clear H
    have H := H1
    clear H1
    by_cases c4 : a0_1 = 0
    · rw [if_pos c4] at H
      have c4b0 : (a0_1 == 0) = true := beq_iff_eq.mpr c4
      have c4b1 : (a0_1 != 0) = false := bne_eq_false_iff_eq.mpr c4
      clear c4
      replace H := Option.bind_eq_some_iff.mp H
      obtain ⟨⟨t153, t154, t155, t156, t157, t158⟩, A50, H⟩ := H
      replace H : ((impl_in.f (l0_4.length : Int) t153 t154).bind fun t161 => (if t161 = true then ((impl_in.f (l0_5.length : Int) t155 t156).bind fun t162 => (if t162 = true then ((impl_allWords.f l0_4).bind fun t163 => (impl_RespOk.j0 k t157 t158 (!t163) a0_0 a0_1 a0_2 a0_3 l0_4 l0_5 t155 t156)) else (impl_RespOk.j0 k t157 t158 true a0_0 a0_1 a0_2 a0_3 l0_4 l0_5 t155 t156))) else (impl_RespOk.j0 k t157 t158 true a0_0 a0_1 a0_2 a0_3 l0_4 l0_5 t155 t156))) = some r := H
      have A5 := Aside0.mk A50
      clear A50
      have HC6 := Aside0.mk H
      clear H
      go_enter Try.func11, Try.ntmps11
      go_upto_region 6 with (first | ((with_reducible refine gate_dst (N := 1) rfl ?_); (try (refine gate_guard (by rfl) ?_; dsimp only)); refine box_event ?hg (N := 1) ?hd (cs := #[.int .i64 a0_0, .int .i64 a0_1, .int .i64 a0_2, .int .i64 a0_3, .slice A0_4 l0_4.length c0_4, .slice A0_5 l0_5.length c0_5]) (t := 28) ?hr ?_; (case hd => rfl); (case hg => rfl); (case hr => first | (go_simp; done) | (go_simp; rfl)); intro gb150 hg w7 hbox hb; have n0_ := Aside0.mk (below_step (by repeat (first | (with_reducible first | exact HB.out | apply below_alloc | apply pw_below_drewN | apply below_drew1) | exact HB.out)) hb); have n1_ := Aside0.mk (hbox); have n2_ := Aside0.mk ((by rw [hg]; exact (below_size (by repeat (first | (with_reducible first | exact HB.out | apply below_alloc | apply pw_below_drewN | apply below_drew1) | exact HB.out))) : w.heap.size ≤ gb150)); have n3_ := Aside0.mk ((by rw [hg]; exact (below_size (by repeat (first | (with_reducible first | exact HB.out | apply below_alloc | apply pw_below_drewN | apply below_drew1) | exact HB.out))) : w.heap.size ≤ gb150)); clear HB; have HB := n0_; have BK150 := n1_; have GW150 := n2_; have GE150 := n3_; clear n0_ n1_ n2_ n3_; clear hb hbox hg; have hcz8_0 : w7.cell? ⟨gb150, 0, none⟩ = some (.int .i64 a0_0) := (blk_cell BK150.out 0).trans rfl; have hcz8_1 : w7.cell? ⟨gb150, 1, none⟩ = some (.int .i64 a0_1) := (blk_cell BK150.out 1).trans rfl; have hcz8_2 : w7.cell? ⟨gb150, 2, none⟩ = some (.int .i64 a0_2) := (blk_cell BK150.out 2).trans rfl; have hcz8_3 : w7.cell? ⟨gb150, 3, none⟩ = some (.int .i64 a0_3) := (blk_cell BK150.out 3).trans rfl; have hcz8_4 : w7.cell? ⟨gb150, 4, none⟩ = some (.slice A0_4 l0_4.length c0_4) := (blk_cell BK150.out 4).trans rfl; have hcz8_5 : w7.cell? ⟨gb150, 5, none⟩ = some (.slice A0_5 l0_5.length c0_5) := (blk_cell BK150.out 5).trans rfl; have hfz8_0 := blk_frozen BK150.out 0; have hfz8_1 := blk_frozen BK150.out 1; have hfz8_2 := blk_frozen BK150.out 2; have hfz8_3 := blk_frozen BK150.out 3; have hfz8_4 := blk_frozen BK150.out 4; have hfz8_5 := blk_frozen BK150.out 5) | ((with_reducible refine gate_callee (f := 39) rfl ?_); refine goesL_ (some 9) rfl rfl Try.func39 (by kernel_rfl) rfl #[.int .i64 a0_0] rfl (by (try simp only [List.map_toArray, List.map_cons, List.map_nil]); first | done | rfl | (simp only [List.length_drop, List.length_take]; rfl)) ?_; (with_reducible refine (impl_isKind.calls a0_0 true _ A2.out).mono ?_); rintro e w' ⟨rfl, ⟨nd, rfl⟩⟩; refine ⟨_, rfl, ?_⟩; (try (rw [drewN_self w7]; generalize hq_ : World.drewN w7 _ = w7; have n0_ : Aside0 (w7.heap[gb150]? = some (.cells #[.int .i64 a0_0, .int .i64 a0_1, .int .i64 a0_2, .int .i64 a0_3, .slice A0_4 l0_4.length c0_4, .slice A0_5 l0_5.length c0_5] 28 (0, 0))) := ⟨by rw [← hq_]; exact (by (with_reducible repeat (first | refine blk_drewN ?_ _ | refine blk_drew ?_ | refine blk_alloc ?_ _)); exact BK150.out)⟩; have n1_ : Aside0 (Below w.heap.size w w7) := ⟨by rw [← hq_]; exact (by repeat (first | (with_reducible first | exact HB.out | apply below_alloc | apply pw_below_drewN | apply below_drew1 | refine below_set ?_ GE150.out) | exact HB.out))⟩; clear BK150 HB hq_; have BK150 := n0_; have HB := n1_; clear n0_ n1_; have hcugb150_0 : w7.cell? ⟨gb150, 0, none⟩ = some (.int .i64 a0_0) := (blk_cell BK150.out 0).trans rfl; have hfugb150_0 := blk_frozen BK150.out 0; have hcugb150_1 : w7.cell? ⟨gb150, 1, none⟩ = some (.int .i64 a0_1) := (blk_cell BK150.out 1).trans rfl; have hfugb150_1 := blk_frozen BK150.out 1; have hcugb150_2 : w7.cell? ⟨gb150, 2, none⟩ = some (.int .i64 a0_2) := (blk_cell BK150.out 2).trans rfl; have hfugb150_2 := blk_frozen BK150.out 2; have hcugb150_3 : w7.cell? ⟨gb150, 3, none⟩ = some (.int .i64 a0_3) := (blk_cell BK150.out 3).trans rfl; have hfugb150_3 := blk_frozen BK150.out 3; have hcugb150_4 : w7.cell? ⟨gb150, 4, none⟩ = some (.slice A0_4 l0_4.length c0_4) := (blk_cell BK150.out 4).trans rfl; have hfugb150_4 := blk_frozen BK150.out 4; have hcugb150_5 : w7.cell? ⟨gb150, 5, none⟩ = some (.slice A0_5 l0_5.length c0_5) := (blk_cell BK150.out 5).trans rfl; have hfugb150_5 := blk_frozen BK150.out 5))) | ((with_reducible refine gate_callee (f := 41) rfl ?_); refine goesL_ (some 19) rfl rfl Try.func41 (by kernel_rfl) rfl #[.int .i64 a0_0] rfl (by (try simp only [List.map_toArray, List.map_cons, List.map_nil]); first | done | rfl | (simp only [List.length_drop, List.length_take]; rfl)) ?_; (with_reducible refine (impl_shape.calls k a0_0 t153 t154 t155 t156 t157 t158 _ A5.out).mono ?_); rintro e w9 ⟨rfl, hb⟩; refine ⟨_, rfl, ?_⟩; have n0_ := Aside0.mk (blk_below (g := gb150) (o := .cells #[.int .i64 a0_0, .int .i64 a0_1, .int .i64 a0_2, .int .i64 a0_3, .slice A0_4 l0_4.length c0_4, .slice A0_5 l0_5.length c0_5] 28 (0, 0)) (by (with_reducible repeat (first | refine blk_drewN ?_ _ | refine blk_drew ?_ | refine blk_alloc ?_ _)); exact BK150.out) hb); have n1_ := Aside0.mk (below_step (by repeat (first | (with_reducible first | exact HB.out | apply below_alloc | apply pw_below_drewN | apply below_drew1 | refine below_set ?_ GE150.out) | exact HB.out)) hb); clear BK150; clear HB; have BK150 := n0_; have HB := n1_; clear n0_ n1_; (try clear hb); (try clear hb2); (try clear hk); (try clear hi)) | ((with_reducible refine gate_dst (N := 3) rfl ?_); (try (refine gate_guard (by rfl) ?_; dsimp only)); refine box_event ?hg (N := 3) ?hd (cs := #[.int .i64 0, .int .i64 0]) (t := 65) ?hr ?_; (case hd => rfl); (case hg => rfl); (case hr => first | (go_simp; done) | (go_simp; rfl)); intro gb159 hg w10 hbox hb; have n0_ := Aside0.mk (blk_below (g := gb150) (o := .cells #[.int .i64 a0_0, .int .i64 a0_1, .int .i64 a0_2, .int .i64 a0_3, .slice A0_4 l0_4.length c0_4, .slice A0_5 l0_5.length c0_5] 28 (0, 0)) (by (with_reducible repeat (first | refine blk_drewN ?_ _ | refine blk_drew ?_ | refine blk_alloc ?_ _)); exact BK150.out) hb); have n1_ := Aside0.mk (below_step (by repeat (first | (with_reducible first | exact HB.out | apply below_alloc | apply pw_below_drewN | apply below_drew1 | refine below_set ?_ GE150.out) | exact HB.out)) hb); have n2_ := Aside0.mk (hbox); have n3_ := Aside0.mk ((by rw [hg]; exact (below_size (by repeat (first | (with_reducible first | exact HB.out | apply below_alloc | apply pw_below_drewN | apply below_drew1 | refine below_set ?_ GE150.out) | exact HB.out))) : w.heap.size ≤ gb159)); have n4_ := Aside0.mk ((by rw [hg]; exact (below_size (by repeat (first | (with_reducible first | exact HB.out | apply below_alloc | apply pw_below_drewN | apply below_drew1 | refine below_set ?_ GE150.out) | exact HB.out))) : w.heap.size ≤ gb159)); have n5_ := Aside0.mk ((by rw [hg]; exact Nat.ne_of_lt (blk_lt (g := gb150) (o := .cells #[.int .i64 a0_0, .int .i64 a0_1, .int .i64 a0_2, .int .i64 a0_3, .slice A0_4 l0_4.length c0_4, .slice A0_5 l0_5.length c0_5] 28 (0, 0)) (by (with_reducible repeat (first | refine blk_drewN ?_ _ | refine blk_drew ?_ | refine blk_alloc ?_ _)); exact BK150.out)) : gb150 ≠ gb159)); have n6_ := Aside0.mk ((by rw [hg]; exact Nat.ne_of_gt (blk_lt (g := gb150) (o := .cells #[.int .i64 a0_0, .int .i64 a0_1, .int .i64 a0_2, .int .i64 a0_3, .slice A0_4 l0_4.length c0_4, .slice A0_5 l0_5.length c0_5] 28 (0, 0)) (by (with_reducible repeat (first | refine blk_drewN ?_ _ | refine blk_drew ?_ | refine blk_alloc ?_ _)); exact BK150.out)) : gb159 ≠ gb150)); clear BK150; clear HB; have BK150 := n0_; have HB := n1_; have BK159 := n2_; have GW159 := n3_; have GE159 := n4_; have NB150_159 := n5_; have NB159_150 := n6_; clear n0_ n1_ n2_ n3_ n4_ n5_ n6_; clear hb hbox hg) | ((with_reducible refine gate_dst (N := 4) rfl ?_); (try (refine gate_guard (by rfl) ?_; dsimp only)); refine box_event ?hg (N := 4) ?hd (cs := #[.int .i64 0, .int .i64 0]) (t := 65) ?hr ?_; (case hd => rfl); (case hg => rfl); (case hr => first | (go_simp; done) | (go_simp; rfl)); intro gb160 hg w11 hbox hb; have n0_ := Aside0.mk (blk_below (g := gb150) (o := .cells #[.int .i64 a0_0, .int .i64 a0_1, .int .i64 a0_2, .int .i64 a0_3, .slice A0_4 l0_4.length c0_4, .slice A0_5 l0_5.length c0_5] 28 (0, 0)) (by (with_reducible repeat (first | refine blk_drewN ?_ _ | refine blk_drew ?_ | refine blk_alloc ?_ _)); exact BK150.out) hb); have n1_ := Aside0.mk (blk_below (g := gb159) (o := .cells #[.int .i64 0, .int .i64 0] 65 (0, 0)) (by (with_reducible repeat (first | refine blk_drewN ?_ _ | refine blk_drew ?_ | refine blk_alloc ?_ _)); exact BK159.out) hb); have n2_ := Aside0.mk (below_step (by repeat (first | (with_reducible first | exact HB.out | apply below_alloc | apply pw_below_drewN | apply below_drew1 | refine below_set ?_ GE150.out | refine below_set ?_ GE159.out) | exact HB.out)) hb); have n3_ := Aside0.mk (hbox); have n4_ := Aside0.mk ((by rw [hg]; exact (below_size (by repeat (first | (with_reducible first | exact HB.out | apply below_alloc | apply pw_below_drewN | apply below_drew1 | refine below_set ?_ GE150.out | refine below_set ?_ GE159.out) | exact HB.out))) : w.heap.size ≤ gb160)); have n5_ := Aside0.mk ((by rw [hg]; exact (below_size (by repeat (first | (with_reducible first | exact HB.out | apply below_alloc | apply pw_below_drewN | apply below_drew1 | refine below_set ?_ GE150.out | refine below_set ?_ GE159.out) | exact HB.out))) : w.heap.size ≤ gb160)); have n6_ := Aside0.mk ((by rw [hg]; exact Nat.ne_of_lt (blk_lt (g := gb150) (o := .cells #[.int .i64 a0_0, .int .i64 a0_1, .int .i64 a0_2, .int .i64 a0_3, .slice A0_4 l0_4.length c0_4, .slice A0_5 l0_5.length c0_5] 28 (0, 0)) (by (with_reducible repeat (first | refine blk_drewN ?_ _ | refine blk_drew ?_ | refine blk_alloc ?_ _)); exact BK150.out)) : gb150 ≠ gb160)); have n7_ := Aside0.mk ((by rw [hg]; exact Nat.ne_of_gt (blk_lt (g := gb150) (o := .cells #[.int .i64 a0_0, .int .i64 a0_1, .int .i64 a0_2, .int .i64 a0_3, .slice A0_4 l0_4.length c0_4, .slice A0_5 l0_5.length c0_5] 28 (0, 0)) (by (with_reducible repeat (first | refine blk_drewN ?_ _ | refine blk_drew ?_ | refine blk_alloc ?_ _)); exact BK150.out)) : gb160 ≠ gb150)); have n8_ := Aside0.mk ((by rw [hg]; exact Nat.ne_of_lt (blk_lt (g := gb159) (o := .cells #[.int .i64 0, .int .i64 0] 65 (0, 0)) (by (with_reducible repeat (first | refine blk_drewN ?_ _ | refine blk_drew ?_ | refine blk_alloc ?_ _)); exact BK159.out)) : gb159 ≠ gb160)); have n9_ := Aside0.mk ((by rw [hg]; exact Nat.ne_of_gt (blk_lt (g := gb159) (o := .cells #[.int .i64 0, .int .i64 0] 65 (0, 0)) (by (with_reducible repeat (first | refine blk_drewN ?_ _ | refine blk_drew ?_ | refine blk_alloc ?_ _)); exact BK159.out)) : gb160 ≠ gb159)); clear BK150; clear BK159; clear HB; have BK150 := n0_; have BK159 := n1_; have HB := n2_; have BK160 := n3_; have GW160 := n4_; have GE160 := n5_; have NB150_160 := n6_; have NB160_150 := n7_; have NB159_160 := n8_; have NB160_159 := n9_; clear n0_ n1_ n2_ n3_ n4_ n5_ n6_ n7_ n8_ n9_; clear hb hbox hg; have hnb12 := NB159_150.out; have hnc12 := NB150_159.out; have hnb13 := NB159_160.out; have hnc13 := NB160_159.out; have hcz14_0 : w11.cell? ⟨gb159, 0, none⟩ = some (.int .i64 0) := (blk_cell BK159.out 0).trans rfl; have hcz14_1 : w11.cell? ⟨gb159, 1, none⟩ = some (.int .i64 0) := (blk_cell BK159.out 1).trans rfl; have hfz14_0 := blk_frozen BK159.out 0; have hfz14_1 := blk_frozen BK159.out 1; have hnb15 := NB160_150.out; have hnc15 := NB150_160.out; have hcz16_0 : w11.cell? ⟨gb160, 0, none⟩ = some (.int .i64 0) := (blk_cell BK160.out 0).trans rfl; have hcz16_1 : w11.cell? ⟨gb160, 1, none⟩ = some (.int .i64 0) := (blk_cell BK160.out 1).trans rfl; have hfz16_0 := blk_frozen BK160.out 0; have hfz16_1 := blk_frozen BK160.out 1))
      (try simp only [Act.put, List.setIfInBounds_toArray, List.set_cons_zero, List.set_cons_succ])
      go_cut [49] (fun v49 wc => ∃ (kq : Nat) (x49_5 : Bool), v49 = .bool x49_5 ∧ Aside0 (impl_RespOk.j0 kq t157 t158 x49_5 a0_0 a0_1 a0_2 a0_3 l0_4 l0_5 t155 t156 = some r) ∧ Aside0 (kq ≤ k) ∧ Aside0 (wc.heap[gb150]? = some (.cells #[.int .i64 a0_0, .int .i64 a0_1, .int .i64 a0_2, .int .i64 a0_3, (.slice A0_4 l0_4.length c0_4), (.slice A0_5 l0_5.length c0_5)] 28 (0, 0))) ∧ Aside0 (wc.heap[gb159]? = some (.cells #[.int .i64 t153, .int .i64 t154] 65 (0, 0))) ∧ Aside0 (wc.heap[gb160]? = some (.cells #[.int .i64 t155, .int .i64 t156] 65 (0, 0))) ∧ Aside0 (Below w.heap.size w wc))
      case first =>
        have H := HC6.out
        clear HC6
        replace H := Option.bind_eq_some_iff.mp H
        obtain ⟨t161, A170, H⟩ := H
        replace H : (if t161 = true then ((impl_in.f (l0_5.length : Int) t155 t156).bind fun t162 => (if t162 = true then ((impl_allWords.f l0_4).bind fun t163 => (impl_RespOk.j0 k t157 t158 (!t163) a0_0 a0_1 a0_2 a0_3 l0_4 l0_5 t155 t156)) else (impl_RespOk.j0 k t157 t158 true a0_0 a0_1 a0_2 a0_3 l0_4 l0_5 t155 t156))) else (impl_RespOk.j0 k t157 t158 true a0_0 a0_1 a0_2 a0_3 l0_4 l0_5 t155 t156)) = some r := H
        have A17 := Aside0.mk A170
        clear A170
        by_cases c18 : t161 = true
        · subst c18
          have H1 : ((impl_in.f (l0_5.length : Int) t155 t156).bind fun t162 => (if t162 = true then ((impl_allWords.f l0_4).bind fun t163 => (impl_RespOk.j0 k t157 t158 (!t163) a0_0 a0_1 a0_2 a0_3 l0_4 l0_5 t155 t156)) else (impl_RespOk.j0 k t157 t158 true a0_0 a0_1 a0_2 a0_3 l0_4 l0_5 t155 t156))) = some r := by rw [if_pos rfl] at H; exact H
          clear H
          have H := H1
          clear H1
          replace H := Option.bind_eq_some_iff.mp H
          obtain ⟨t162, A190, H⟩ := H
          replace H : (if t162 = true then ((impl_allWords.f l0_4).bind fun t163 => (impl_RespOk.j0 k t157 t158 (!t163) a0_0 a0_1 a0_2 a0_3 l0_4 l0_5 t155 t156)) else (impl_RespOk.j0 k t157 t158 true a0_0 a0_1 a0_2 a0_3 l0_4 l0_5 t155 t156)) = some r := H
          have A19 := Aside0.mk A190
          clear A190
          by_cases c20 : t162 = true
          · subst c20
            have H1 : ((impl_allWords.f l0_4).bind fun t163 => (impl_RespOk.j0 k t157 t158 (!t163) a0_0 a0_1 a0_2 a0_3 l0_4 l0_5 t155 t156)) = some r := by rw [if_pos rfl] at H; exact H
            clear H
            have H := H1
            clear H1
            replace H := Option.bind_eq_some_iff.mp H
            obtain ⟨t163, A210, H⟩ := H
            replace H : (impl_RespOk.j0 k t157 t158 (!t163) a0_0 a0_1 a0_2 a0_3 l0_4 l0_5 t155 t156) = some r := H
            have A21 := Aside0.mk A210
            clear A210
            have H' := Aside0.mk H
            clear H
            have hnb22 := NB150_159.out
            have hnc22 := NB159_150.out
            have hnb23 := NB150_160.out
            have hnc23 := NB160_150.out
            have hcz24_0 : w11.cell? ⟨gb150, 0, none⟩ = some (.int .i64 a0_0) := (blk_cell BK150.out 0).trans rfl
            have hcz24_1 : w11.cell? ⟨gb150, 1, none⟩ = some (.int .i64 a0_1) := (blk_cell BK150.out 1).trans rfl
            have hcz24_2 : w11.cell? ⟨gb150, 2, none⟩ = some (.int .i64 a0_2) := (blk_cell BK150.out 2).trans rfl
            have hcz24_3 : w11.cell? ⟨gb150, 3, none⟩ = some (.int .i64 a0_3) := (blk_cell BK150.out 3).trans rfl
            have hcz24_4 : w11.cell? ⟨gb150, 4, none⟩ = some (.slice A0_4 l0_4.length c0_4) := (blk_cell BK150.out 4).trans rfl
            have hcz24_5 : w11.cell? ⟨gb150, 5, none⟩ = some (.slice A0_5 l0_5.length c0_5) := (blk_cell BK150.out 5).trans rfl
            have hfz24_0 := blk_frozen BK150.out 0
            have hfz24_1 := blk_frozen BK150.out 1
            have hfz24_2 := blk_frozen BK150.out 2
            have hfz24_3 := blk_frozen BK150.out 3
            have hfz24_4 := blk_frozen BK150.out 4
            have hfz24_5 := blk_frozen BK150.out 5
            have hnb25 := NB159_160.out
            have hnc25 := NB160_159.out
            have hcz26_0 : w11.cell? ⟨gb159, 0, none⟩ = some (.int .i64 0) := (blk_cell BK159.out 0).trans rfl
            have hcz26_1 : w11.cell? ⟨gb159, 1, none⟩ = some (.int .i64 0) := (blk_cell BK159.out 1).trans rfl
            have hfz26_0 := blk_frozen BK159.out 0
            have hfz26_1 := blk_frozen BK159.out 1
            go_wp2_with (first | ((with_reducible refine gate_callee (f := 42) rfl ?_); refine goesL_ (some 31) rfl rfl Try.func42 (by kernel_rfl) rfl #[.int .i64 (l0_4.length : Int), .int .i64 t153, .int .i64 t154] rfl (by (try simp only [List.map_toArray, List.map_cons, List.map_nil]); first | done | rfl | (simp only [List.length_drop, List.length_take]; rfl)) ?_; (with_reducible refine (impl_in.calls (l0_4.length : Int) t153 t154 true _ A17.out).mono ?_); rintro e w' ⟨rfl, ⟨nd, rfl⟩⟩; refine ⟨_, rfl, ?_⟩; have hcz27_0 : w11.cell? ⟨gb160, 0, none⟩ = some (.int .i64 0) := (blk_cell BK160.out 0).trans rfl; have hcz27_1 : w11.cell? ⟨gb160, 1, none⟩ = some (.int .i64 0) := (blk_cell BK160.out 1).trans rfl; have hfz27_0 := blk_frozen BK160.out 0; have hfz27_1 := blk_frozen BK160.out 1) | (go_at_call 42; (with_reducible refine (impl_in.calls (l0_5.length : Int) t155 t156 true _ A19.out).mono ?_); rintro e w' ⟨rfl, ⟨nd, rfl⟩⟩) | (go_at_call 43; (with_reducible refine (impl_allWords.calls _ _ l0_4 t163 _ ?side1 ?side2 A21.out).mono ?_); (case side1 => exact Kd.C_below HR0_4.out (by repeat (first | (with_reducible first | exact HB.out | apply below_alloc | apply pw_below_drewN | apply below_drew1 | refine below_set ?_ GE150.out | refine below_set ?_ GE159.out | refine below_set ?_ GE160.out) | exact HB.out))); (case side2 => exact HC0_4.out); rintro e w' ⟨rfl, ⟨nd, rfl⟩⟩))
            go_meet
            case rel => exact ⟨_, (!t163), (by first | rfl | (simp; done) | (simp [*]; done)), H', ⟨by first | omega | exact Nat.le_refl _⟩, ⟨by (with_reducible repeat (first | refine blk_drewN ?_ _ | refine blk_drew ?_ | refine blk_alloc ?_ _)); refine blk_far ?_ NB150_160.out _; (with_reducible repeat (first | refine blk_drewN ?_ _ | refine blk_drew ?_ | refine blk_alloc ?_ _)); refine blk_far ?_ NB150_160.out _; (with_reducible repeat (first | refine blk_drewN ?_ _ | refine blk_drew ?_ | refine blk_alloc ?_ _)); refine blk_far ?_ NB150_159.out _; (with_reducible repeat (first | refine blk_drewN ?_ _ | refine blk_drew ?_ | refine blk_alloc ?_ _)); refine blk_far ?_ NB150_159.out _; (with_reducible repeat (first | refine blk_drewN ?_ _ | refine blk_drew ?_ | refine blk_alloc ?_ _)); exact BK150.out⟩, ⟨by (with_reducible repeat (first | refine blk_drewN ?_ _ | refine blk_drew ?_ | refine blk_alloc ?_ _)); refine blk_far ?_ NB159_160.out _; (with_reducible repeat (first | refine blk_drewN ?_ _ | refine blk_drew ?_ | refine blk_alloc ?_ _)); refine blk_far ?_ NB159_160.out _; (with_reducible repeat (first | refine blk_drewN ?_ _ | refine blk_drew ?_ | refine blk_alloc ?_ _)); refine blk_put (cs := #[.int .i64 t153, .int .i64 0]) ?_ 1 _ rfl; (with_reducible repeat (first | refine blk_drewN ?_ _ | refine blk_drew ?_ | refine blk_alloc ?_ _)); refine blk_put (cs := #[.int .i64 0, .int .i64 0]) ?_ 0 _ rfl; (with_reducible repeat (first | refine blk_drewN ?_ _ | refine blk_drew ?_ | refine blk_alloc ?_ _)); exact BK159.out⟩, ⟨by (with_reducible repeat (first | refine blk_drewN ?_ _ | refine blk_drew ?_ | refine blk_alloc ?_ _)); refine blk_put (cs := #[.int .i64 t155, .int .i64 0]) ?_ 1 _ rfl; (with_reducible repeat (first | refine blk_drewN ?_ _ | refine blk_drew ?_ | refine blk_alloc ?_ _)); refine blk_put (cs := #[.int .i64 0, .int .i64 0]) ?_ 0 _ rfl; (with_reducible repeat (first | refine blk_drewN ?_ _ | refine blk_drew ?_ | refine blk_alloc ?_ _)); refine blk_far ?_ NB160_159.out _; (with_reducible repeat (first | refine blk_drewN ?_ _ | refine blk_drew ?_ | refine blk_alloc ?_ _)); refine blk_far ?_ NB160_159.out _; (with_reducible repeat (first | refine blk_drewN ?_ _ | refine blk_drew ?_ | refine blk_alloc ?_ _)); exact BK160.out⟩, ⟨by repeat (first | (with_reducible first | exact HB.out | apply below_alloc | apply pw_below_drewN | apply below_drew1 | refine below_set ?_ GE150.out | refine below_set ?_ GE159.out | refine below_set ?_ GE160.out) | exact HB.out)⟩⟩
          · replace c20 := Bool.eq_false_iff.mpr c20
            subst c20
            have H1 : (impl_RespOk.j0 k t157 t158 true a0_0 a0_1 a0_2 a0_3 l0_4 l0_5 t155 t156) = some r := by rw [if_neg (show ¬ (false = true) by decide)] at H; exact H
            clear H
            have H := H1
            clear H1
            have H' := Aside0.mk H
            clear H
            have hnb28 := NB150_159.out
            have hnc28 := NB159_150.out
            have hnb29 := NB150_160.out
            have hnc29 := NB160_150.out
            have hcz30_0 : w11.cell? ⟨gb150, 0, none⟩ = some (.int .i64 a0_0) := (blk_cell BK150.out 0).trans rfl
            have hcz30_1 : w11.cell? ⟨gb150, 1, none⟩ = some (.int .i64 a0_1) := (blk_cell BK150.out 1).trans rfl
            have hcz30_2 : w11.cell? ⟨gb150, 2, none⟩ = some (.int .i64 a0_2) := (blk_cell BK150.out 2).trans rfl
            have hcz30_3 : w11.cell? ⟨gb150, 3, none⟩ = some (.int .i64 a0_3) := (blk_cell BK150.out 3).trans rfl
            have hcz30_4 : w11.cell? ⟨gb150, 4, none⟩ = some (.slice A0_4 l0_4.length c0_4) := (blk_cell BK150.out 4).trans rfl
            have hcz30_5 : w11.cell? ⟨gb150, 5, none⟩ = some (.slice A0_5 l0_5.length c0_5) := (blk_cell BK150.out 5).trans rfl
            have hfz30_0 := blk_frozen BK150.out 0
            have hfz30_1 := blk_frozen BK150.out 1
            have hfz30_2 := blk_frozen BK150.out 2
            have hfz30_3 := blk_frozen BK150.out 3
            have hfz30_4 := blk_frozen BK150.out 4
            have hfz30_5 := blk_frozen BK150.out 5
            have hnb31 := NB159_160.out
            have hnc31 := NB160_159.out
            have hcz32_0 : w11.cell? ⟨gb159, 0, none⟩ = some (.int .i64 0) := (blk_cell BK159.out 0).trans rfl
            have hcz32_1 : w11.cell? ⟨gb159, 1, none⟩ = some (.int .i64 0) := (blk_cell BK159.out 1).trans rfl
            have hfz32_0 := blk_frozen BK159.out 0
            have hfz32_1 := blk_frozen BK159.out 1
            go_wp2_with (first | ((with_reducible refine gate_callee (f := 42) rfl ?_); refine goesL_ (some 31) rfl rfl Try.func42 (by kernel_rfl) rfl #[.int .i64 (l0_4.length : Int), .int .i64 t153, .int .i64 t154] rfl (by (try simp only [List.map_toArray, List.map_cons, List.map_nil]); first | done | rfl | (simp only [List.length_drop, List.length_take]; rfl)) ?_; (with_reducible refine (impl_in.calls (l0_4.length : Int) t153 t154 true _ A17.out).mono ?_); rintro e w' ⟨rfl, ⟨nd, rfl⟩⟩; refine ⟨_, rfl, ?_⟩; have hcz33_0 : w11.cell? ⟨gb160, 0, none⟩ = some (.int .i64 0) := (blk_cell BK160.out 0).trans rfl; have hcz33_1 : w11.cell? ⟨gb160, 1, none⟩ = some (.int .i64 0) := (blk_cell BK160.out 1).trans rfl; have hfz33_0 := blk_frozen BK160.out 0; have hfz33_1 := blk_frozen BK160.out 1) | (go_at_call 42; (with_reducible refine (impl_in.calls (l0_5.length : Int) t155 t156 false _ A19.out).mono ?_); rintro e w' ⟨rfl, ⟨nd, rfl⟩⟩))
            go_meet
            case rel => exact ⟨_, (true), (by first | rfl | (simp; done) | (simp [*]; done)), H', ⟨by first | omega | exact Nat.le_refl _⟩, ⟨by (with_reducible repeat (first | refine blk_drewN ?_ _ | refine blk_drew ?_ | refine blk_alloc ?_ _)); refine blk_far ?_ NB150_160.out _; (with_reducible repeat (first | refine blk_drewN ?_ _ | refine blk_drew ?_ | refine blk_alloc ?_ _)); refine blk_far ?_ NB150_160.out _; (with_reducible repeat (first | refine blk_drewN ?_ _ | refine blk_drew ?_ | refine blk_alloc ?_ _)); refine blk_far ?_ NB150_159.out _; (with_reducible repeat (first | refine blk_drewN ?_ _ | refine blk_drew ?_ | refine blk_alloc ?_ _)); refine blk_far ?_ NB150_159.out _; (with_reducible repeat (first | refine blk_drewN ?_ _ | refine blk_drew ?_ | refine blk_alloc ?_ _)); exact BK150.out⟩, ⟨by (with_reducible repeat (first | refine blk_drewN ?_ _ | refine blk_drew ?_ | refine blk_alloc ?_ _)); refine blk_far ?_ NB159_160.out _; (with_reducible repeat (first | refine blk_drewN ?_ _ | refine blk_drew ?_ | refine blk_alloc ?_ _)); refine blk_far ?_ NB159_160.out _; (with_reducible repeat (first | refine blk_drewN ?_ _ | refine blk_drew ?_ | refine blk_alloc ?_ _)); refine blk_put (cs := #[.int .i64 t153, .int .i64 0]) ?_ 1 _ rfl; (with_reducible repeat (first | refine blk_drewN ?_ _ | refine blk_drew ?_ | refine blk_alloc ?_ _)); refine blk_put (cs := #[.int .i64 0, .int .i64 0]) ?_ 0 _ rfl; (with_reducible repeat (first | refine blk_drewN ?_ _ | refine blk_drew ?_ | refine blk_alloc ?_ _)); exact BK159.out⟩, ⟨by (with_reducible repeat (first | refine blk_drewN ?_ _ | refine blk_drew ?_ | refine blk_alloc ?_ _)); refine blk_put (cs := #[.int .i64 t155, .int .i64 0]) ?_ 1 _ rfl; (with_reducible repeat (first | refine blk_drewN ?_ _ | refine blk_drew ?_ | refine blk_alloc ?_ _)); refine blk_put (cs := #[.int .i64 0, .int .i64 0]) ?_ 0 _ rfl; (with_reducible repeat (first | refine blk_drewN ?_ _ | refine blk_drew ?_ | refine blk_alloc ?_ _)); refine blk_far ?_ NB160_159.out _; (with_reducible repeat (first | refine blk_drewN ?_ _ | refine blk_drew ?_ | refine blk_alloc ?_ _)); refine blk_far ?_ NB160_159.out _; (with_reducible repeat (first | refine blk_drewN ?_ _ | refine blk_drew ?_ | refine blk_alloc ?_ _)); exact BK160.out⟩, ⟨by repeat (first | (with_reducible first | exact HB.out | apply below_alloc | apply pw_below_drewN | apply below_drew1 | refine below_set ?_ GE150.out | refine below_set ?_ GE159.out | refine below_set ?_ GE160.out) | exact HB.out)⟩⟩
        · replace c18 := Bool.eq_false_iff.mpr c18
          subst c18
          have H1 : (impl_RespOk.j0 k t157 t158 true a0_0 a0_1 a0_2 a0_3 l0_4 l0_5 t155 t156) = some r := by rw [if_neg (show ¬ (false = true) by decide)] at H; exact H
          clear H
          have H := H1
          clear H1
          have H' := Aside0.mk H
          clear H
          have hnb34 := NB150_159.out
          have hnc34 := NB159_150.out
          have hnb35 := NB150_160.out
          have hnc35 := NB160_150.out
          have hcz36_0 : w11.cell? ⟨gb150, 0, none⟩ = some (.int .i64 a0_0) := (blk_cell BK150.out 0).trans rfl
          have hcz36_1 : w11.cell? ⟨gb150, 1, none⟩ = some (.int .i64 a0_1) := (blk_cell BK150.out 1).trans rfl
          have hcz36_2 : w11.cell? ⟨gb150, 2, none⟩ = some (.int .i64 a0_2) := (blk_cell BK150.out 2).trans rfl
          have hcz36_3 : w11.cell? ⟨gb150, 3, none⟩ = some (.int .i64 a0_3) := (blk_cell BK150.out 3).trans rfl
          have hcz36_4 : w11.cell? ⟨gb150, 4, none⟩ = some (.slice A0_4 l0_4.length c0_4) := (blk_cell BK150.out 4).trans rfl
          have hcz36_5 : w11.cell? ⟨gb150, 5, none⟩ = some (.slice A0_5 l0_5.length c0_5) := (blk_cell BK150.out 5).trans rfl
          have hfz36_0 := blk_frozen BK150.out 0
          have hfz36_1 := blk_frozen BK150.out 1
          have hfz36_2 := blk_frozen BK150.out 2
          have hfz36_3 := blk_frozen BK150.out 3
          have hfz36_4 := blk_frozen BK150.out 4
          have hfz36_5 := blk_frozen BK150.out 5
          have hnb37 := NB159_160.out
          have hnc37 := NB160_159.out
          have hcz38_0 : w11.cell? ⟨gb159, 0, none⟩ = some (.int .i64 0) := (blk_cell BK159.out 0).trans rfl
          have hcz38_1 : w11.cell? ⟨gb159, 1, none⟩ = some (.int .i64 0) := (blk_cell BK159.out 1).trans rfl
          have hfz38_0 := blk_frozen BK159.out 0
          have hfz38_1 := blk_frozen BK159.out 1
          go_wp2_with (first | ((with_reducible refine gate_callee (f := 42) rfl ?_); refine goesL_ (some 31) rfl rfl Try.func42 (by kernel_rfl) rfl #[.int .i64 (l0_4.length : Int), .int .i64 t153, .int .i64 t154] rfl (by (try simp only [List.map_toArray, List.map_cons, List.map_nil]); first | done | rfl | (simp only [List.length_drop, List.length_take]; rfl)) ?_; (with_reducible refine (impl_in.calls (l0_4.length : Int) t153 t154 false _ A17.out).mono ?_); rintro e w' ⟨rfl, ⟨nd, rfl⟩⟩; refine ⟨_, rfl, ?_⟩))
          go_meet
          case rel => exact ⟨_, (true), (by first | rfl | (simp; done) | (simp [*]; done)), H', ⟨by first | omega | exact Nat.le_refl _⟩, ⟨by (with_reducible repeat (first | refine blk_drewN ?_ _ | refine blk_drew ?_ | refine blk_alloc ?_ _)); refine blk_far ?_ NB150_160.out _; (with_reducible repeat (first | refine blk_drewN ?_ _ | refine blk_drew ?_ | refine blk_alloc ?_ _)); refine blk_far ?_ NB150_160.out _; (with_reducible repeat (first | refine blk_drewN ?_ _ | refine blk_drew ?_ | refine blk_alloc ?_ _)); refine blk_far ?_ NB150_159.out _; (with_reducible repeat (first | refine blk_drewN ?_ _ | refine blk_drew ?_ | refine blk_alloc ?_ _)); refine blk_far ?_ NB150_159.out _; (with_reducible repeat (first | refine blk_drewN ?_ _ | refine blk_drew ?_ | refine blk_alloc ?_ _)); exact BK150.out⟩, ⟨by (with_reducible repeat (first | refine blk_drewN ?_ _ | refine blk_drew ?_ | refine blk_alloc ?_ _)); refine blk_far ?_ NB159_160.out _; (with_reducible repeat (first | refine blk_drewN ?_ _ | refine blk_drew ?_ | refine blk_alloc ?_ _)); refine blk_far ?_ NB159_160.out _; (with_reducible repeat (first | refine blk_drewN ?_ _ | refine blk_drew ?_ | refine blk_alloc ?_ _)); refine blk_put (cs := #[.int .i64 t153, .int .i64 0]) ?_ 1 _ rfl; (with_reducible repeat (first | refine blk_drewN ?_ _ | refine blk_drew ?_ | refine blk_alloc ?_ _)); refine blk_put (cs := #[.int .i64 0, .int .i64 0]) ?_ 0 _ rfl; (with_reducible repeat (first | refine blk_drewN ?_ _ | refine blk_drew ?_ | refine blk_alloc ?_ _)); exact BK159.out⟩, ⟨by (with_reducible repeat (first | refine blk_drewN ?_ _ | refine blk_drew ?_ | refine blk_alloc ?_ _)); refine blk_put (cs := #[.int .i64 t155, .int .i64 0]) ?_ 1 _ rfl; (with_reducible repeat (first | refine blk_drewN ?_ _ | refine blk_drew ?_ | refine blk_alloc ?_ _)); refine blk_put (cs := #[.int .i64 0, .int .i64 0]) ?_ 0 _ rfl; (with_reducible repeat (first | refine blk_drewN ?_ _ | refine blk_drew ?_ | refine blk_alloc ?_ _)); refine blk_far ?_ NB160_159.out _; (with_reducible repeat (first | refine blk_drewN ?_ _ | refine blk_drew ?_ | refine blk_alloc ?_ _)); refine blk_far ?_ NB160_159.out _; (with_reducible repeat (first | refine blk_drewN ?_ _ | refine blk_drew ?_ | refine blk_alloc ?_ _)); exact BK160.out⟩, ⟨by repeat (first | (with_reducible first | exact HB.out | apply below_alloc | apply pw_below_drewN | apply below_drew1 | refine below_set ?_ GE150.out | refine below_set ?_ GE159.out | refine below_set ?_ GE160.out) | exact HB.out)⟩⟩
      case rest =>
        clear HC6
        try clear c1
        try clear c2
        try clear p2
        try clear c3
        try clear c4
        try clear c4b0
        try clear c4b1
        try clear c11
        try clear c12
        try clear c13
        try clear c15
        try clear c18
        try clear c20
        try clear c22
        try clear c23
        try clear c25
        try clear c28
        try clear c29
        try clear c31
        try clear c34
        try clear c35
        try clear c37
        try clear hcz14_0
        try clear hcz14_1
        try clear hcz16_0
        try clear hcz16_1
        try clear hcz24_0
        try clear hcz24_1
        try clear hcz24_2
        try clear hcz24_3
        try clear hcz24_4
        try clear hcz24_5
        try clear hcz26_0
        try clear hcz26_1
        try clear hcz27_0
        try clear hcz27_1
        try clear hcz30_0
        try clear hcz30_1
        try clear hcz30_2
        try clear hcz30_3
        try clear hcz30_4
        try clear hcz30_5
        try clear hcz32_0
        try clear hcz32_1
        try clear hcz33_0
        try clear hcz33_1
        try clear hcz36_0
        try clear hcz36_1
        try clear hcz36_2
        try clear hcz36_3
        try clear hcz36_4
        try clear hcz36_5
        try clear hcz38_0
        try clear hcz38_1
        try clear hcz8_0
        try clear hcz8_1
        try clear hcz8_2
        try clear hcz8_3
        try clear hcz8_4
        try clear hcz8_5
        try clear hfz14_0
        try clear hfz14_1
        try clear hfz16_0
        try clear hfz16_1
        try clear hfz24_0
        try clear hfz24_1
        try clear hfz24_2
        try clear hfz24_3
        try clear hfz24_4
        try clear hfz24_5
        try clear hfz26_0
        try clear hfz26_1
        try clear hfz27_0
        try clear hfz27_1
        try clear hfz30_0
        try clear hfz30_1
        try clear hfz30_2
        try clear hfz30_3
        try clear hfz30_4
        try clear hfz30_5
        try clear hfz32_0
        try clear hfz32_1
        try clear hfz33_0
        try clear hfz33_1
        try clear hfz36_0
        try clear hfz36_1
        try clear hfz36_2
        try clear hfz36_3
        try clear hfz36_4
        try clear hfz36_5
        try clear hfz38_0
        try clear hfz38_1
        try clear hfz8_0
        try clear hfz8_1
        try clear hfz8_2
        try clear hfz8_3
        try clear hfz8_4
        try clear hfz8_5
        obtain ⟨kq, x49_5, rfl, HA, HJ5, BK150, BK159, BK160, HB⟩ := hcut
        cases kq with
        | zero => exact absurd HA.out (by simp [impl_RespOk.j0])
        | succ kj5 =>
          have H := HA.out
          clear HA
          simp only [impl_RespOk.j0] at H
          by_cases c39 : x49_5 = true
          · subst c39
            have H1 : (some false) = some r := by rw [if_pos rfl] at H; exact H
            clear H
            have H := H1
            clear H1
            obtain rfl := Option.some.inj H
            go_wp2
            go_ret
            exact ⟨by first | rfl | (simp [errW_none, errW_some] <;> rfl) | (simp [*, errW_none, errW_some] <;> rfl), by repeat (first | (with_reducible first | exact HB.out | apply below_alloc | apply pw_below_drewN | apply below_drew1 | refine below_set ?_ GE150.out | refine below_set ?_ GE159.out | refine below_set ?_ GE160.out) | exact HB.out)⟩
          · replace c39 := Bool.eq_false_iff.mpr c39
            subst c39
            have H1 : (if t156 > 1 then (if ((l0_5.length : Int) % 8) = 0 then (if t157 = 0 then (if a0_3 = 0 then (if t157 > 0 then ((impl_in.f a0_3 1 t157).bind fun t164 => (if t164 = true then (if t158 = true then ((impl_isWord.f a0_2).bind fun t165 => (if t165 = true then (some true) else (some (a0_2 == 0)))) else (some (a0_2 == 0))) else (some false))) else (if t158 = true then ((impl_isWord.f a0_2).bind fun t166 => (if t166 = true then (some true) else (some (a0_2 == 0)))) else (some (a0_2 == 0)))) else (some false)) else (if t157 > 0 then ((impl_in.f a0_3 1 t157).bind fun t167 => (if t167 = true then (if t158 = true then ((impl_isWord.f a0_2).bind fun t168 => (if t168 = true then (some true) else (some (a0_2 == 0)))) else (some (a0_2 == 0))) else (some false))) else (if t158 = true then ((impl_isWord.f a0_2).bind fun t169 => (if t169 = true then (some true) else (some (a0_2 == 0)))) else (some (a0_2 == 0))))) else (some false)) else (if t157 = 0 then (if a0_3 = 0 then (if t157 > 0 then ((impl_in.f a0_3 1 t157).bind fun t170 => (if t170 = true then (if t158 = true then ((impl_isWord.f a0_2).bind fun t171 => (if t171 = true then (some true) else (some (a0_2 == 0)))) else (some (a0_2 == 0))) else (some false))) else (if t158 = true then ((impl_isWord.f a0_2).bind fun t172 => (if t172 = true then (some true) else (some (a0_2 == 0)))) else (some (a0_2 == 0)))) else (some false)) else (if t157 > 0 then ((impl_in.f a0_3 1 t157).bind fun t173 => (if t173 = true then (if t158 = true then ((impl_isWord.f a0_2).bind fun t174 => (if t174 = true then (some true) else (some (a0_2 == 0)))) else (some (a0_2 == 0))) else (some false))) else (if t158 = true then ((impl_isWord.f a0_2).bind fun t175 => (if t175 = true then (some true) else (some (a0_2 == 0)))) else (some (a0_2 == 0)))))) = some r := by rw [if_neg (show ¬ (false = true) by decide)] at H; exact H
            clear H
            have H := H1
            clear H1
            by_cases c40 : t156 > 1
            · rw [if_pos c40] at H
              have c40b0 : decide (1 < t156) = true := decide_eq_true c40
              clear c40
              by_cases c41 : ((l0_5.length : Int) % 8) = 0
              · rw [if_pos c41] at H
                have c41b0 : (((l0_5.length : Int) % 8) == 0) = true := beq_iff_eq.mpr c41
                have c41b1 : (((l0_5.length : Int) % 8) != 0) = false := bne_eq_false_iff_eq.mpr c41
                clear c41
                by_cases c42 : t157 = 0
                · rw [if_pos c42] at H
                  have c42b0 : (t157 == 0) = true := beq_iff_eq.mpr c42
                  have c42b1 : (t157 != 0) = false := bne_eq_false_iff_eq.mpr c42
                  clear c42
                  by_cases c43 : a0_3 = 0
                  · rw [if_pos c43] at H
                    have c43b0 : (a0_3 == 0) = true := beq_iff_eq.mpr c43
                    have c43b1 : (a0_3 != 0) = false := bne_eq_false_iff_eq.mpr c43
                    clear c43
                    by_cases c44 : t157 > 0
                    · rw [if_pos c44] at H
                      have c44b0 : decide (0 < t157) = true := decide_eq_true c44
                      clear c44
                      replace H := Option.bind_eq_some_iff.mp H
                      obtain ⟨t164, A450, H⟩ := H
                      replace H : (if t164 = true then (if t158 = true then ((impl_isWord.f a0_2).bind fun t165 => (if t165 = true then (some true) else (some (a0_2 == 0)))) else (some (a0_2 == 0))) else (some false)) = some r := H
                      have A45 := Aside0.mk A450
                      clear A450
                      by_cases c46 : t164 = true
                      · subst c46
                        have H1 : (if t158 = true then ((impl_isWord.f a0_2).bind fun t165 => (if t165 = true then (some true) else (some (a0_2 == 0)))) else (some (a0_2 == 0))) = some r := by rw [if_pos rfl] at H; exact H
                        clear H
                        have H := H1
                        clear H1
                        by_cases c47 : t158 = true
                        · subst c47
                          have H1 : ((impl_isWord.f a0_2).bind fun t165 => (if t165 = true then (some true) else (some (a0_2 == 0)))) = some r := by rw [if_pos rfl] at H; exact H
                          clear H
                          have H := H1
                          clear H1
                          replace H := Option.bind_eq_some_iff.mp H
                          obtain ⟨t165, A480, H⟩ := H
                          replace H : (if t165 = true then (some true) else (some (a0_2 == 0))) = some r := H
                          have A48 := Aside0.mk A480
                          clear A480
                          by_cases c49 : t165 = true
                          · subst c49
                            have H1 : (some true) = some r := by rw [if_pos rfl] at H; exact H
                            clear H
                            have H := H1
                            clear H1
                            obtain rfl := Option.some.inj H
                            have hnb50 := NB160_150.out
                            have hnc50 := NB150_160.out
                            have hnb51 := NB160_159.out
                            have hnc51 := NB159_160.out
                            have hcz52_0 : wc.cell? ⟨gb160, 0, none⟩ = some (.int .i64 t155) := (blk_cell BK160.out 0).trans rfl
                            have hcz52_1 : wc.cell? ⟨gb160, 1, none⟩ = some (.int .i64 t156) := (blk_cell BK160.out 1).trans rfl
                            have hfz52_0 := blk_frozen BK160.out 0
                            have hfz52_1 := blk_frozen BK160.out 1
                            have hnb53 := NB150_159.out
                            have hnc53 := NB159_150.out
                            have hcz54_0 : wc.cell? ⟨gb150, 0, none⟩ = some (.int .i64 a0_0) := (blk_cell BK150.out 0).trans rfl
                            have hcz54_1 : wc.cell? ⟨gb150, 1, none⟩ = some (.int .i64 a0_1) := (blk_cell BK150.out 1).trans rfl
                            have hcz54_2 : wc.cell? ⟨gb150, 2, none⟩ = some (.int .i64 a0_2) := (blk_cell BK150.out 2).trans rfl
                            have hcz54_3 : wc.cell? ⟨gb150, 3, none⟩ = some (.int .i64 a0_3) := (blk_cell BK150.out 3).trans rfl
                            have hcz54_4 : wc.cell? ⟨gb150, 4, none⟩ = some (.slice A0_4 l0_4.length c0_4) := (blk_cell BK150.out 4).trans rfl
                            have hcz54_5 : wc.cell? ⟨gb150, 5, none⟩ = some (.slice A0_5 l0_5.length c0_5) := (blk_cell BK150.out 5).trans rfl
                            have hfz54_0 := blk_frozen BK150.out 0
                            have hfz54_1 := blk_frozen BK150.out 1
                            have hfz54_2 := blk_frozen BK150.out 2
                            have hfz54_3 := blk_frozen BK150.out 3
                            have hfz54_4 := blk_frozen BK150.out 4
                            have hfz54_5 := blk_frozen BK150.out 5
                            go_wp2_with (first | (go_at_call 42; (with_reducible refine (impl_in.calls a0_3 1 t157 true _ A45.out).mono ?_); rintro e w' ⟨rfl, ⟨nd, rfl⟩⟩) | (go_at_call 44; (with_reducible refine (impl_isWord.calls a0_2 true _ A48.out).mono ?_); rintro e w' ⟨rfl, ⟨nd, rfl⟩⟩))
                            go_ret
                            exact ⟨by first | rfl | (simp [errW_none, errW_some] <;> rfl) | (simp [*, errW_none, errW_some] <;> rfl), by repeat (first | (with_reducible first | exact HB.out | apply below_alloc | apply pw_below_drewN | apply below_drew1 | refine below_set ?_ GE150.out | refine below_set ?_ GE159.out | refine below_set ?_ GE160.out) | exact HB.out)⟩
                          · replace c49 := Bool.eq_false_iff.mpr c49
                            subst c49
                            have H1 : (some (a0_2 == 0)) = some r := by rw [if_neg (show ¬ (false = true) by decide)] at H; exact H
                            clear H
                            have H := H1
                            clear H1
                            obtain rfl := Option.some.inj H
                            have hnb55 := NB160_150.out
                            have hnc55 := NB150_160.out
                            have hnb56 := NB160_159.out
                            have hnc56 := NB159_160.out
                            have hcz57_0 : wc.cell? ⟨gb160, 0, none⟩ = some (.int .i64 t155) := (blk_cell BK160.out 0).trans rfl
                            have hcz57_1 : wc.cell? ⟨gb160, 1, none⟩ = some (.int .i64 t156) := (blk_cell BK160.out 1).trans rfl
                            have hfz57_0 := blk_frozen BK160.out 0
                            have hfz57_1 := blk_frozen BK160.out 1
                            have hnb58 := NB150_159.out
                            have hnc58 := NB159_150.out
                            have hcz59_0 : wc.cell? ⟨gb150, 0, none⟩ = some (.int .i64 a0_0) := (blk_cell BK150.out 0).trans rfl
                            have hcz59_1 : wc.cell? ⟨gb150, 1, none⟩ = some (.int .i64 a0_1) := (blk_cell BK150.out 1).trans rfl
                            have hcz59_2 : wc.cell? ⟨gb150, 2, none⟩ = some (.int .i64 a0_2) := (blk_cell BK150.out 2).trans rfl
                            have hcz59_3 : wc.cell? ⟨gb150, 3, none⟩ = some (.int .i64 a0_3) := (blk_cell BK150.out 3).trans rfl
                            have hcz59_4 : wc.cell? ⟨gb150, 4, none⟩ = some (.slice A0_4 l0_4.length c0_4) := (blk_cell BK150.out 4).trans rfl
                            have hcz59_5 : wc.cell? ⟨gb150, 5, none⟩ = some (.slice A0_5 l0_5.length c0_5) := (blk_cell BK150.out 5).trans rfl
                            have hfz59_0 := blk_frozen BK150.out 0
                            have hfz59_1 := blk_frozen BK150.out 1
                            have hfz59_2 := blk_frozen BK150.out 2
                            have hfz59_3 := blk_frozen BK150.out 3
                            have hfz59_4 := blk_frozen BK150.out 4
                            have hfz59_5 := blk_frozen BK150.out 5
                            go_wp2_with (first | (go_at_call 42; (with_reducible refine (impl_in.calls a0_3 1 t157 true _ A45.out).mono ?_); rintro e w' ⟨rfl, ⟨nd, rfl⟩⟩) | (go_at_call 44; (with_reducible refine (impl_isWord.calls a0_2 false _ A48.out).mono ?_); rintro e w' ⟨rfl, ⟨nd, rfl⟩⟩))
                            go_ret
                            exact ⟨by first | rfl | (simp [errW_none, errW_some] <;> rfl) | (simp [*, errW_none, errW_some] <;> rfl), by repeat (first | (with_reducible first | exact HB.out | apply below_alloc | apply pw_below_drewN | apply below_drew1 | refine below_set ?_ GE150.out | refine below_set ?_ GE159.out | refine below_set ?_ GE160.out) | exact HB.out)⟩
                        · replace c47 := Bool.eq_false_iff.mpr c47
                          subst c47
                          have H1 : (some (a0_2 == 0)) = some r := by rw [if_neg (show ¬ (false = true) by decide)] at H; exact H
                          clear H
                          have H := H1
                          clear H1
                          obtain rfl := Option.some.inj H
                          have hnb60 := NB160_150.out
                          have hnc60 := NB150_160.out
                          have hnb61 := NB160_159.out
                          have hnc61 := NB159_160.out
                          have hcz62_0 : wc.cell? ⟨gb160, 0, none⟩ = some (.int .i64 t155) := (blk_cell BK160.out 0).trans rfl
                          have hcz62_1 : wc.cell? ⟨gb160, 1, none⟩ = some (.int .i64 t156) := (blk_cell BK160.out 1).trans rfl
                          have hfz62_0 := blk_frozen BK160.out 0
                          have hfz62_1 := blk_frozen BK160.out 1
                          have hnb63 := NB150_159.out
                          have hnc63 := NB159_150.out
                          have hcz64_0 : wc.cell? ⟨gb150, 0, none⟩ = some (.int .i64 a0_0) := (blk_cell BK150.out 0).trans rfl
                          have hcz64_1 : wc.cell? ⟨gb150, 1, none⟩ = some (.int .i64 a0_1) := (blk_cell BK150.out 1).trans rfl
                          have hcz64_2 : wc.cell? ⟨gb150, 2, none⟩ = some (.int .i64 a0_2) := (blk_cell BK150.out 2).trans rfl
                          have hcz64_3 : wc.cell? ⟨gb150, 3, none⟩ = some (.int .i64 a0_3) := (blk_cell BK150.out 3).trans rfl
                          have hcz64_4 : wc.cell? ⟨gb150, 4, none⟩ = some (.slice A0_4 l0_4.length c0_4) := (blk_cell BK150.out 4).trans rfl
                          have hcz64_5 : wc.cell? ⟨gb150, 5, none⟩ = some (.slice A0_5 l0_5.length c0_5) := (blk_cell BK150.out 5).trans rfl
                          have hfz64_0 := blk_frozen BK150.out 0
                          have hfz64_1 := blk_frozen BK150.out 1
                          have hfz64_2 := blk_frozen BK150.out 2
                          have hfz64_3 := blk_frozen BK150.out 3
                          have hfz64_4 := blk_frozen BK150.out 4
                          have hfz64_5 := blk_frozen BK150.out 5
                          go_wp2_with (first | (go_at_call 42; (with_reducible refine (impl_in.calls a0_3 1 t157 true _ A45.out).mono ?_); rintro e w' ⟨rfl, ⟨nd, rfl⟩⟩))
                          go_ret
                          exact ⟨by first | rfl | (simp [errW_none, errW_some] <;> rfl) | (simp [*, errW_none, errW_some] <;> rfl), by repeat (first | (with_reducible first | exact HB.out | apply below_alloc | apply pw_below_drewN | apply below_drew1 | refine below_set ?_ GE150.out | refine below_set ?_ GE159.out | refine below_set ?_ GE160.out) | exact HB.out)⟩
                      · replace c46 := Bool.eq_false_iff.mpr c46
                        subst c46
                        have H1 : (some false) = some r := by rw [if_neg (show ¬ (false = true) by decide)] at H; exact H
                        clear H
                        have H := H1
                        clear H1
                        obtain rfl := Option.some.inj H
                        have hnb65 := NB160_150.out
                        have hnc65 := NB150_160.out
                        have hnb66 := NB160_159.out
                        have hnc66 := NB159_160.out
                        have hcz67_0 : wc.cell? ⟨gb160, 0, none⟩ = some (.int .i64 t155) := (blk_cell BK160.out 0).trans rfl
                        have hcz67_1 : wc.cell? ⟨gb160, 1, none⟩ = some (.int .i64 t156) := (blk_cell BK160.out 1).trans rfl
                        have hfz67_0 := blk_frozen BK160.out 0
                        have hfz67_1 := blk_frozen BK160.out 1
                        have hnb68 := NB150_159.out
                        have hnc68 := NB159_150.out
                        have hcz69_0 : wc.cell? ⟨gb150, 0, none⟩ = some (.int .i64 a0_0) := (blk_cell BK150.out 0).trans rfl
                        have hcz69_1 : wc.cell? ⟨gb150, 1, none⟩ = some (.int .i64 a0_1) := (blk_cell BK150.out 1).trans rfl
                        have hcz69_2 : wc.cell? ⟨gb150, 2, none⟩ = some (.int .i64 a0_2) := (blk_cell BK150.out 2).trans rfl
                        have hcz69_3 : wc.cell? ⟨gb150, 3, none⟩ = some (.int .i64 a0_3) := (blk_cell BK150.out 3).trans rfl
                        have hcz69_4 : wc.cell? ⟨gb150, 4, none⟩ = some (.slice A0_4 l0_4.length c0_4) := (blk_cell BK150.out 4).trans rfl
                        have hcz69_5 : wc.cell? ⟨gb150, 5, none⟩ = some (.slice A0_5 l0_5.length c0_5) := (blk_cell BK150.out 5).trans rfl
                        have hfz69_0 := blk_frozen BK150.out 0
                        have hfz69_1 := blk_frozen BK150.out 1
                        have hfz69_2 := blk_frozen BK150.out 2
                        have hfz69_3 := blk_frozen BK150.out 3
                        have hfz69_4 := blk_frozen BK150.out 4
                        have hfz69_5 := blk_frozen BK150.out 5
                        go_wp2_with (first | (go_at_call 42; (with_reducible refine (impl_in.calls a0_3 1 t157 false _ A45.out).mono ?_); rintro e w' ⟨rfl, ⟨nd, rfl⟩⟩))
                        go_ret
                        exact ⟨by first | rfl | (simp [errW_none, errW_some] <;> rfl) | (simp [*, errW_none, errW_some] <;> rfl), by repeat (first | (with_reducible first | exact HB.out | apply below_alloc | apply pw_below_drewN | apply below_drew1 | refine below_set ?_ GE150.out | refine below_set ?_ GE159.out | refine below_set ?_ GE160.out) | exact HB.out)⟩
                    · rw [if_neg c44] at H
                      have c44b0 : decide (0 < t157) = false := decide_eq_false c44
                      clear c44
                      by_cases c70 : t158 = true
                      · subst c70
                        have H1 : ((impl_isWord.f a0_2).bind fun t166 => (if t166 = true then (some true) else (some (a0_2 == 0)))) = some r := by rw [if_pos rfl] at H; exact H
                        clear H
                        have H := H1
                        clear H1
                        replace H := Option.bind_eq_some_iff.mp H
                        obtain ⟨t166, A710, H⟩ := H
                        replace H : (if t166 = true then (some true) else (some (a0_2 == 0))) = some r := H
                        have A71 := Aside0.mk A710
                        clear A710
                        by_cases c72 : t166 = true
                        · subst c72
                          have H1 : (some true) = some r := by rw [if_pos rfl] at H; exact H
                          clear H
                          have H := H1
                          clear H1
                          obtain rfl := Option.some.inj H
                          have hnb73 := NB160_150.out
                          have hnc73 := NB150_160.out
                          have hnb74 := NB160_159.out
                          have hnc74 := NB159_160.out
                          have hcz75_0 : wc.cell? ⟨gb160, 0, none⟩ = some (.int .i64 t155) := (blk_cell BK160.out 0).trans rfl
                          have hcz75_1 : wc.cell? ⟨gb160, 1, none⟩ = some (.int .i64 t156) := (blk_cell BK160.out 1).trans rfl
                          have hfz75_0 := blk_frozen BK160.out 0
                          have hfz75_1 := blk_frozen BK160.out 1
                          have hnb76 := NB150_159.out
                          have hnc76 := NB159_150.out
                          have hcz77_0 : wc.cell? ⟨gb150, 0, none⟩ = some (.int .i64 a0_0) := (blk_cell BK150.out 0).trans rfl
                          have hcz77_1 : wc.cell? ⟨gb150, 1, none⟩ = some (.int .i64 a0_1) := (blk_cell BK150.out 1).trans rfl
                          have hcz77_2 : wc.cell? ⟨gb150, 2, none⟩ = some (.int .i64 a0_2) := (blk_cell BK150.out 2).trans rfl
                          have hcz77_3 : wc.cell? ⟨gb150, 3, none⟩ = some (.int .i64 a0_3) := (blk_cell BK150.out 3).trans rfl
                          have hcz77_4 : wc.cell? ⟨gb150, 4, none⟩ = some (.slice A0_4 l0_4.length c0_4) := (blk_cell BK150.out 4).trans rfl
                          have hcz77_5 : wc.cell? ⟨gb150, 5, none⟩ = some (.slice A0_5 l0_5.length c0_5) := (blk_cell BK150.out 5).trans rfl
                          have hfz77_0 := blk_frozen BK150.out 0
                          have hfz77_1 := blk_frozen BK150.out 1
                          have hfz77_2 := blk_frozen BK150.out 2
                          have hfz77_3 := blk_frozen BK150.out 3
                          have hfz77_4 := blk_frozen BK150.out 4
                          have hfz77_5 := blk_frozen BK150.out 5
                          go_wp2_with (first | (go_at_call 44; (with_reducible refine (impl_isWord.calls a0_2 true _ A71.out).mono ?_); rintro e w' ⟨rfl, ⟨nd, rfl⟩⟩))
                          go_ret
                          exact ⟨by first | rfl | (simp [errW_none, errW_some] <;> rfl) | (simp [*, errW_none, errW_some] <;> rfl), by repeat (first | (with_reducible first | exact HB.out | apply below_alloc | apply pw_below_drewN | apply below_drew1 | refine below_set ?_ GE150.out | refine below_set ?_ GE159.out | refine below_set ?_ GE160.out) | exact HB.out)⟩
                        · replace c72 := Bool.eq_false_iff.mpr c72
                          subst c72
                          have H1 : (some (a0_2 == 0)) = some r := by rw [if_neg (show ¬ (false = true) by decide)] at H; exact H
                          clear H
                          have H := H1
                          clear H1
                          obtain rfl := Option.some.inj H
                          have hnb78 := NB160_150.out
                          have hnc78 := NB150_160.out
                          have hnb79 := NB160_159.out
                          have hnc79 := NB159_160.out
                          have hcz80_0 : wc.cell? ⟨gb160, 0, none⟩ = some (.int .i64 t155) := (blk_cell BK160.out 0).trans rfl
                          have hcz80_1 : wc.cell? ⟨gb160, 1, none⟩ = some (.int .i64 t156) := (blk_cell BK160.out 1).trans rfl
                          have hfz80_0 := blk_frozen BK160.out 0
                          have hfz80_1 := blk_frozen BK160.out 1
                          have hnb81 := NB150_159.out
                          have hnc81 := NB159_150.out
                          have hcz82_0 : wc.cell? ⟨gb150, 0, none⟩ = some (.int .i64 a0_0) := (blk_cell BK150.out 0).trans rfl
                          have hcz82_1 : wc.cell? ⟨gb150, 1, none⟩ = some (.int .i64 a0_1) := (blk_cell BK150.out 1).trans rfl
                          have hcz82_2 : wc.cell? ⟨gb150, 2, none⟩ = some (.int .i64 a0_2) := (blk_cell BK150.out 2).trans rfl
                          have hcz82_3 : wc.cell? ⟨gb150, 3, none⟩ = some (.int .i64 a0_3) := (blk_cell BK150.out 3).trans rfl
                          have hcz82_4 : wc.cell? ⟨gb150, 4, none⟩ = some (.slice A0_4 l0_4.length c0_4) := (blk_cell BK150.out 4).trans rfl
                          have hcz82_5 : wc.cell? ⟨gb150, 5, none⟩ = some (.slice A0_5 l0_5.length c0_5) := (blk_cell BK150.out 5).trans rfl
                          have hfz82_0 := blk_frozen BK150.out 0
                          have hfz82_1 := blk_frozen BK150.out 1
                          have hfz82_2 := blk_frozen BK150.out 2
                          have hfz82_3 := blk_frozen BK150.out 3
                          have hfz82_4 := blk_frozen BK150.out 4
                          have hfz82_5 := blk_frozen BK150.out 5
                          go_wp2_with (first | (go_at_call 44; (with_reducible refine (impl_isWord.calls a0_2 false _ A71.out).mono ?_); rintro e w' ⟨rfl, ⟨nd, rfl⟩⟩))
                          go_ret
                          exact ⟨by first | rfl | (simp [errW_none, errW_some] <;> rfl) | (simp [*, errW_none, errW_some] <;> rfl), by repeat (first | (with_reducible first | exact HB.out | apply below_alloc | apply pw_below_drewN | apply below_drew1 | refine below_set ?_ GE150.out | refine below_set ?_ GE159.out | refine below_set ?_ GE160.out) | exact HB.out)⟩
                      · replace c70 := Bool.eq_false_iff.mpr c70
                        subst c70
                        have H1 : (some (a0_2 == 0)) = some r := by rw [if_neg (show ¬ (false = true) by decide)] at H; exact H
                        clear H
                        have H := H1
                        clear H1
                        obtain rfl := Option.some.inj H
                        have hnb83 := NB160_150.out
                        have hnc83 := NB150_160.out
                        have hnb84 := NB160_159.out
                        have hnc84 := NB159_160.out
                        have hcz85_0 : wc.cell? ⟨gb160, 0, none⟩ = some (.int .i64 t155) := (blk_cell BK160.out 0).trans rfl
                        have hcz85_1 : wc.cell? ⟨gb160, 1, none⟩ = some (.int .i64 t156) := (blk_cell BK160.out 1).trans rfl
                        have hfz85_0 := blk_frozen BK160.out 0
                        have hfz85_1 := blk_frozen BK160.out 1
                        have hnb86 := NB150_159.out
                        have hnc86 := NB159_150.out
                        have hcz87_0 : wc.cell? ⟨gb150, 0, none⟩ = some (.int .i64 a0_0) := (blk_cell BK150.out 0).trans rfl
                        have hcz87_1 : wc.cell? ⟨gb150, 1, none⟩ = some (.int .i64 a0_1) := (blk_cell BK150.out 1).trans rfl
                        have hcz87_2 : wc.cell? ⟨gb150, 2, none⟩ = some (.int .i64 a0_2) := (blk_cell BK150.out 2).trans rfl
                        have hcz87_3 : wc.cell? ⟨gb150, 3, none⟩ = some (.int .i64 a0_3) := (blk_cell BK150.out 3).trans rfl
                        have hcz87_4 : wc.cell? ⟨gb150, 4, none⟩ = some (.slice A0_4 l0_4.length c0_4) := (blk_cell BK150.out 4).trans rfl
                        have hcz87_5 : wc.cell? ⟨gb150, 5, none⟩ = some (.slice A0_5 l0_5.length c0_5) := (blk_cell BK150.out 5).trans rfl
                        have hfz87_0 := blk_frozen BK150.out 0
                        have hfz87_1 := blk_frozen BK150.out 1
                        have hfz87_2 := blk_frozen BK150.out 2
                        have hfz87_3 := blk_frozen BK150.out 3
                        have hfz87_4 := blk_frozen BK150.out 4
                        have hfz87_5 := blk_frozen BK150.out 5
                        go_wp2
                        go_ret
                        exact ⟨by first | rfl | (simp [errW_none, errW_some] <;> rfl) | (simp [*, errW_none, errW_some] <;> rfl), by repeat (first | (with_reducible first | exact HB.out | apply below_alloc | apply pw_below_drewN | apply below_drew1 | refine below_set ?_ GE150.out | refine below_set ?_ GE159.out | refine below_set ?_ GE160.out) | exact HB.out)⟩
                  · rw [if_neg c43] at H
                    have c43b0 : (a0_3 == 0) = false := beq_eq_false_iff_ne.mpr c43
                    have c43b1 : (a0_3 != 0) = true := bne_iff_ne.mpr c43
                    obtain rfl := Option.some.inj H
                    have hnb88 := NB160_150.out
                    have hnc88 := NB150_160.out
                    have hnb89 := NB160_159.out
                    have hnc89 := NB159_160.out
                    have hcz90_0 : wc.cell? ⟨gb160, 0, none⟩ = some (.int .i64 t155) := (blk_cell BK160.out 0).trans rfl
                    have hcz90_1 : wc.cell? ⟨gb160, 1, none⟩ = some (.int .i64 t156) := (blk_cell BK160.out 1).trans rfl
                    have hfz90_0 := blk_frozen BK160.out 0
                    have hfz90_1 := blk_frozen BK160.out 1
                    have hnb91 := NB150_159.out
                    have hnc91 := NB159_150.out
                    have hcz92_0 : wc.cell? ⟨gb150, 0, none⟩ = some (.int .i64 a0_0) := (blk_cell BK150.out 0).trans rfl
                    have hcz92_1 : wc.cell? ⟨gb150, 1, none⟩ = some (.int .i64 a0_1) := (blk_cell BK150.out 1).trans rfl
                    have hcz92_2 : wc.cell? ⟨gb150, 2, none⟩ = some (.int .i64 a0_2) := (blk_cell BK150.out 2).trans rfl
                    have hcz92_3 : wc.cell? ⟨gb150, 3, none⟩ = some (.int .i64 a0_3) := (blk_cell BK150.out 3).trans rfl
                    have hcz92_4 : wc.cell? ⟨gb150, 4, none⟩ = some (.slice A0_4 l0_4.length c0_4) := (blk_cell BK150.out 4).trans rfl
                    have hcz92_5 : wc.cell? ⟨gb150, 5, none⟩ = some (.slice A0_5 l0_5.length c0_5) := (blk_cell BK150.out 5).trans rfl
                    have hfz92_0 := blk_frozen BK150.out 0
                    have hfz92_1 := blk_frozen BK150.out 1
                    have hfz92_2 := blk_frozen BK150.out 2
                    have hfz92_3 := blk_frozen BK150.out 3
                    have hfz92_4 := blk_frozen BK150.out 4
                    have hfz92_5 := blk_frozen BK150.out 5
                    go_wp2
                    go_ret
                    exact ⟨by first | rfl | (simp [errW_none, errW_some] <;> rfl) | (simp [*, errW_none, errW_some] <;> rfl), by repeat (first | (with_reducible first | exact HB.out | apply below_alloc | apply pw_below_drewN | apply below_drew1 | refine below_set ?_ GE150.out | refine below_set ?_ GE159.out | refine below_set ?_ GE160.out) | exact HB.out)⟩
                · rw [if_neg c42] at H
                  have c42b0 : (t157 == 0) = false := beq_eq_false_iff_ne.mpr c42
                  have c42b1 : (t157 != 0) = true := bne_iff_ne.mpr c42
                  by_cases c93 : t157 > 0
                  · rw [if_pos c93] at H
                    have c93b0 : decide (0 < t157) = true := decide_eq_true c93
                    clear c93
                    replace H := Option.bind_eq_some_iff.mp H
                    obtain ⟨t167, A940, H⟩ := H
                    replace H : (if t167 = true then (if t158 = true then ((impl_isWord.f a0_2).bind fun t168 => (if t168 = true then (some true) else (some (a0_2 == 0)))) else (some (a0_2 == 0))) else (some false)) = some r := H
                    have A94 := Aside0.mk A940
                    clear A940
                    by_cases c95 : t167 = true
                    · subst c95
                      have H1 : (if t158 = true then ((impl_isWord.f a0_2).bind fun t168 => (if t168 = true then (some true) else (some (a0_2 == 0)))) else (some (a0_2 == 0))) = some r := by rw [if_pos rfl] at H; exact H
                      clear H
                      have H := H1
                      clear H1
                      by_cases c96 : t158 = true
                      · subst c96
                        have H1 : ((impl_isWord.f a0_2).bind fun t168 => (if t168 = true then (some true) else (some (a0_2 == 0)))) = some r := by rw [if_pos rfl] at H; exact H
                        clear H
                        have H := H1
                        clear H1
                        replace H := Option.bind_eq_some_iff.mp H
                        obtain ⟨t168, A970, H⟩ := H
                        replace H : (if t168 = true then (some true) else (some (a0_2 == 0))) = some r := H
                        have A97 := Aside0.mk A970
                        clear A970
                        by_cases c98 : t168 = true
                        · subst c98
                          have H1 : (some true) = some r := by rw [if_pos rfl] at H; exact H
                          clear H
                          have H := H1
                          clear H1
                          obtain rfl := Option.some.inj H
                          have hnb99 := NB160_150.out
                          have hnc99 := NB150_160.out
                          have hnb100 := NB160_159.out
                          have hnc100 := NB159_160.out
                          have hcz101_0 : wc.cell? ⟨gb160, 0, none⟩ = some (.int .i64 t155) := (blk_cell BK160.out 0).trans rfl
                          have hcz101_1 : wc.cell? ⟨gb160, 1, none⟩ = some (.int .i64 t156) := (blk_cell BK160.out 1).trans rfl
                          have hfz101_0 := blk_frozen BK160.out 0
                          have hfz101_1 := blk_frozen BK160.out 1
                          have hnb102 := NB150_159.out
                          have hnc102 := NB159_150.out
                          have hcz103_0 : wc.cell? ⟨gb150, 0, none⟩ = some (.int .i64 a0_0) := (blk_cell BK150.out 0).trans rfl
                          have hcz103_1 : wc.cell? ⟨gb150, 1, none⟩ = some (.int .i64 a0_1) := (blk_cell BK150.out 1).trans rfl
                          have hcz103_2 : wc.cell? ⟨gb150, 2, none⟩ = some (.int .i64 a0_2) := (blk_cell BK150.out 2).trans rfl
                          have hcz103_3 : wc.cell? ⟨gb150, 3, none⟩ = some (.int .i64 a0_3) := (blk_cell BK150.out 3).trans rfl
                          have hcz103_4 : wc.cell? ⟨gb150, 4, none⟩ = some (.slice A0_4 l0_4.length c0_4) := (blk_cell BK150.out 4).trans rfl
                          have hcz103_5 : wc.cell? ⟨gb150, 5, none⟩ = some (.slice A0_5 l0_5.length c0_5) := (blk_cell BK150.out 5).trans rfl
                          have hfz103_0 := blk_frozen BK150.out 0
                          have hfz103_1 := blk_frozen BK150.out 1
                          have hfz103_2 := blk_frozen BK150.out 2
                          have hfz103_3 := blk_frozen BK150.out 3
                          have hfz103_4 := blk_frozen BK150.out 4
                          have hfz103_5 := blk_frozen BK150.out 5
                          go_wp2_with (first | (go_at_call 42; (with_reducible refine (impl_in.calls a0_3 1 t157 true _ A94.out).mono ?_); rintro e w' ⟨rfl, ⟨nd, rfl⟩⟩) | (go_at_call 44; (with_reducible refine (impl_isWord.calls a0_2 true _ A97.out).mono ?_); rintro e w' ⟨rfl, ⟨nd, rfl⟩⟩))
                          go_ret
                          exact ⟨by first | rfl | (simp [errW_none, errW_some] <;> rfl) | (simp [*, errW_none, errW_some] <;> rfl), by repeat (first | (with_reducible first | exact HB.out | apply below_alloc | apply pw_below_drewN | apply below_drew1 | refine below_set ?_ GE150.out | refine below_set ?_ GE159.out | refine below_set ?_ GE160.out) | exact HB.out)⟩
                        · replace c98 := Bool.eq_false_iff.mpr c98
                          subst c98
                          have H1 : (some (a0_2 == 0)) = some r := by rw [if_neg (show ¬ (false = true) by decide)] at H; exact H
                          clear H
                          have H := H1
                          clear H1
                          obtain rfl := Option.some.inj H
                          have hnb104 := NB160_150.out
                          have hnc104 := NB150_160.out
                          have hnb105 := NB160_159.out
                          have hnc105 := NB159_160.out
                          have hcz106_0 : wc.cell? ⟨gb160, 0, none⟩ = some (.int .i64 t155) := (blk_cell BK160.out 0).trans rfl
                          have hcz106_1 : wc.cell? ⟨gb160, 1, none⟩ = some (.int .i64 t156) := (blk_cell BK160.out 1).trans rfl
                          have hfz106_0 := blk_frozen BK160.out 0
                          have hfz106_1 := blk_frozen BK160.out 1
                          have hnb107 := NB150_159.out
                          have hnc107 := NB159_150.out
                          have hcz108_0 : wc.cell? ⟨gb150, 0, none⟩ = some (.int .i64 a0_0) := (blk_cell BK150.out 0).trans rfl
                          have hcz108_1 : wc.cell? ⟨gb150, 1, none⟩ = some (.int .i64 a0_1) := (blk_cell BK150.out 1).trans rfl
                          have hcz108_2 : wc.cell? ⟨gb150, 2, none⟩ = some (.int .i64 a0_2) := (blk_cell BK150.out 2).trans rfl
                          have hcz108_3 : wc.cell? ⟨gb150, 3, none⟩ = some (.int .i64 a0_3) := (blk_cell BK150.out 3).trans rfl
                          have hcz108_4 : wc.cell? ⟨gb150, 4, none⟩ = some (.slice A0_4 l0_4.length c0_4) := (blk_cell BK150.out 4).trans rfl
                          have hcz108_5 : wc.cell? ⟨gb150, 5, none⟩ = some (.slice A0_5 l0_5.length c0_5) := (blk_cell BK150.out 5).trans rfl
                          have hfz108_0 := blk_frozen BK150.out 0
                          have hfz108_1 := blk_frozen BK150.out 1
                          have hfz108_2 := blk_frozen BK150.out 2
                          have hfz108_3 := blk_frozen BK150.out 3
                          have hfz108_4 := blk_frozen BK150.out 4
                          have hfz108_5 := blk_frozen BK150.out 5
                          go_wp2_with (first | (go_at_call 42; (with_reducible refine (impl_in.calls a0_3 1 t157 true _ A94.out).mono ?_); rintro e w' ⟨rfl, ⟨nd, rfl⟩⟩) | (go_at_call 44; (with_reducible refine (impl_isWord.calls a0_2 false _ A97.out).mono ?_); rintro e w' ⟨rfl, ⟨nd, rfl⟩⟩))
                          go_ret
                          exact ⟨by first | rfl | (simp [errW_none, errW_some] <;> rfl) | (simp [*, errW_none, errW_some] <;> rfl), by repeat (first | (with_reducible first | exact HB.out | apply below_alloc | apply pw_below_drewN | apply below_drew1 | refine below_set ?_ GE150.out | refine below_set ?_ GE159.out | refine below_set ?_ GE160.out) | exact HB.out)⟩
                      · replace c96 := Bool.eq_false_iff.mpr c96
                        subst c96
                        have H1 : (some (a0_2 == 0)) = some r := by rw [if_neg (show ¬ (false = true) by decide)] at H; exact H
                        clear H
                        have H := H1
                        clear H1
                        obtain rfl := Option.some.inj H
                        have hnb109 := NB160_150.out
                        have hnc109 := NB150_160.out
                        have hnb110 := NB160_159.out
                        have hnc110 := NB159_160.out
                        have hcz111_0 : wc.cell? ⟨gb160, 0, none⟩ = some (.int .i64 t155) := (blk_cell BK160.out 0).trans rfl
                        have hcz111_1 : wc.cell? ⟨gb160, 1, none⟩ = some (.int .i64 t156) := (blk_cell BK160.out 1).trans rfl
                        have hfz111_0 := blk_frozen BK160.out 0
                        have hfz111_1 := blk_frozen BK160.out 1
                        have hnb112 := NB150_159.out
                        have hnc112 := NB159_150.out
                        have hcz113_0 : wc.cell? ⟨gb150, 0, none⟩ = some (.int .i64 a0_0) := (blk_cell BK150.out 0).trans rfl
                        have hcz113_1 : wc.cell? ⟨gb150, 1, none⟩ = some (.int .i64 a0_1) := (blk_cell BK150.out 1).trans rfl
                        have hcz113_2 : wc.cell? ⟨gb150, 2, none⟩ = some (.int .i64 a0_2) := (blk_cell BK150.out 2).trans rfl
                        have hcz113_3 : wc.cell? ⟨gb150, 3, none⟩ = some (.int .i64 a0_3) := (blk_cell BK150.out 3).trans rfl
                        have hcz113_4 : wc.cell? ⟨gb150, 4, none⟩ = some (.slice A0_4 l0_4.length c0_4) := (blk_cell BK150.out 4).trans rfl
                        have hcz113_5 : wc.cell? ⟨gb150, 5, none⟩ = some (.slice A0_5 l0_5.length c0_5) := (blk_cell BK150.out 5).trans rfl
                        have hfz113_0 := blk_frozen BK150.out 0
                        have hfz113_1 := blk_frozen BK150.out 1
                        have hfz113_2 := blk_frozen BK150.out 2
                        have hfz113_3 := blk_frozen BK150.out 3
                        have hfz113_4 := blk_frozen BK150.out 4
                        have hfz113_5 := blk_frozen BK150.out 5
                        go_wp2_with (first | (go_at_call 42; (with_reducible refine (impl_in.calls a0_3 1 t157 true _ A94.out).mono ?_); rintro e w' ⟨rfl, ⟨nd, rfl⟩⟩))
                        go_ret
                        exact ⟨by first | rfl | (simp [errW_none, errW_some] <;> rfl) | (simp [*, errW_none, errW_some] <;> rfl), by repeat (first | (with_reducible first | exact HB.out | apply below_alloc | apply pw_below_drewN | apply below_drew1 | refine below_set ?_ GE150.out | refine below_set ?_ GE159.out | refine below_set ?_ GE160.out) | exact HB.out)⟩
                    · replace c95 := Bool.eq_false_iff.mpr c95
                      subst c95
                      have H1 : (some false) = some r := by rw [if_neg (show ¬ (false = true) by decide)] at H; exact H
                      clear H
                      have H := H1
                      clear H1
                      obtain rfl := Option.some.inj H
                      have hnb114 := NB160_150.out
                      have hnc114 := NB150_160.out
                      have hnb115 := NB160_159.out
                      have hnc115 := NB159_160.out
                      have hcz116_0 : wc.cell? ⟨gb160, 0, none⟩ = some (.int .i64 t155) := (blk_cell BK160.out 0).trans rfl
                      have hcz116_1 : wc.cell? ⟨gb160, 1, none⟩ = some (.int .i64 t156) := (blk_cell BK160.out 1).trans rfl
                      have hfz116_0 := blk_frozen BK160.out 0
                      have hfz116_1 := blk_frozen BK160.out 1
                      have hnb117 := NB150_159.out
                      have hnc117 := NB159_150.out
                      have hcz118_0 : wc.cell? ⟨gb150, 0, none⟩ = some (.int .i64 a0_0) := (blk_cell BK150.out 0).trans rfl
                      have hcz118_1 : wc.cell? ⟨gb150, 1, none⟩ = some (.int .i64 a0_1) := (blk_cell BK150.out 1).trans rfl
                      have hcz118_2 : wc.cell? ⟨gb150, 2, none⟩ = some (.int .i64 a0_2) := (blk_cell BK150.out 2).trans rfl
                      have hcz118_3 : wc.cell? ⟨gb150, 3, none⟩ = some (.int .i64 a0_3) := (blk_cell BK150.out 3).trans rfl
                      have hcz118_4 : wc.cell? ⟨gb150, 4, none⟩ = some (.slice A0_4 l0_4.length c0_4) := (blk_cell BK150.out 4).trans rfl
                      have hcz118_5 : wc.cell? ⟨gb150, 5, none⟩ = some (.slice A0_5 l0_5.length c0_5) := (blk_cell BK150.out 5).trans rfl
                      have hfz118_0 := blk_frozen BK150.out 0
                      have hfz118_1 := blk_frozen BK150.out 1
                      have hfz118_2 := blk_frozen BK150.out 2
                      have hfz118_3 := blk_frozen BK150.out 3
                      have hfz118_4 := blk_frozen BK150.out 4
                      have hfz118_5 := blk_frozen BK150.out 5
                      go_wp2_with (first | (go_at_call 42; (with_reducible refine (impl_in.calls a0_3 1 t157 false _ A94.out).mono ?_); rintro e w' ⟨rfl, ⟨nd, rfl⟩⟩))
                      go_ret
                      exact ⟨by first | rfl | (simp [errW_none, errW_some] <;> rfl) | (simp [*, errW_none, errW_some] <;> rfl), by repeat (first | (with_reducible first | exact HB.out | apply below_alloc | apply pw_below_drewN | apply below_drew1 | refine below_set ?_ GE150.out | refine below_set ?_ GE159.out | refine below_set ?_ GE160.out) | exact HB.out)⟩
                  · rw [if_neg c93] at H
                    have c93b0 : decide (0 < t157) = false := decide_eq_false c93
                    clear c93
                    by_cases c119 : t158 = true
                    · subst c119
                      have H1 : ((impl_isWord.f a0_2).bind fun t169 => (if t169 = true then (some true) else (some (a0_2 == 0)))) = some r := by rw [if_pos rfl] at H; exact H
                      clear H
                      have H := H1
                      clear H1
                      replace H := Option.bind_eq_some_iff.mp H
                      obtain ⟨t169, A1200, H⟩ := H
                      replace H : (if t169 = true then (some true) else (some (a0_2 == 0))) = some r := H
                      have A120 := Aside0.mk A1200
                      clear A1200
                      by_cases c121 : t169 = true
                      · subst c121
                        have H1 : (some true) = some r := by rw [if_pos rfl] at H; exact H
                        clear H
                        have H := H1
                        clear H1
                        obtain rfl := Option.some.inj H
                        have hnb122 := NB160_150.out
                        have hnc122 := NB150_160.out
                        have hnb123 := NB160_159.out
                        have hnc123 := NB159_160.out
                        have hcz124_0 : wc.cell? ⟨gb160, 0, none⟩ = some (.int .i64 t155) := (blk_cell BK160.out 0).trans rfl
                        have hcz124_1 : wc.cell? ⟨gb160, 1, none⟩ = some (.int .i64 t156) := (blk_cell BK160.out 1).trans rfl
                        have hfz124_0 := blk_frozen BK160.out 0
                        have hfz124_1 := blk_frozen BK160.out 1
                        have hnb125 := NB150_159.out
                        have hnc125 := NB159_150.out
                        have hcz126_0 : wc.cell? ⟨gb150, 0, none⟩ = some (.int .i64 a0_0) := (blk_cell BK150.out 0).trans rfl
                        have hcz126_1 : wc.cell? ⟨gb150, 1, none⟩ = some (.int .i64 a0_1) := (blk_cell BK150.out 1).trans rfl
                        have hcz126_2 : wc.cell? ⟨gb150, 2, none⟩ = some (.int .i64 a0_2) := (blk_cell BK150.out 2).trans rfl
                        have hcz126_3 : wc.cell? ⟨gb150, 3, none⟩ = some (.int .i64 a0_3) := (blk_cell BK150.out 3).trans rfl
                        have hcz126_4 : wc.cell? ⟨gb150, 4, none⟩ = some (.slice A0_4 l0_4.length c0_4) := (blk_cell BK150.out 4).trans rfl
                        have hcz126_5 : wc.cell? ⟨gb150, 5, none⟩ = some (.slice A0_5 l0_5.length c0_5) := (blk_cell BK150.out 5).trans rfl
                        have hfz126_0 := blk_frozen BK150.out 0
                        have hfz126_1 := blk_frozen BK150.out 1
                        have hfz126_2 := blk_frozen BK150.out 2
                        have hfz126_3 := blk_frozen BK150.out 3
                        have hfz126_4 := blk_frozen BK150.out 4
                        have hfz126_5 := blk_frozen BK150.out 5
                        go_wp2_with (first | (go_at_call 44; (with_reducible refine (impl_isWord.calls a0_2 true _ A120.out).mono ?_); rintro e w' ⟨rfl, ⟨nd, rfl⟩⟩))
                        go_ret
                        exact ⟨by first | rfl | (simp [errW_none, errW_some] <;> rfl) | (simp [*, errW_none, errW_some] <;> rfl), by repeat (first | (with_reducible first | exact HB.out | apply below_alloc | apply pw_below_drewN | apply below_drew1 | refine below_set ?_ GE150.out | refine below_set ?_ GE159.out | refine below_set ?_ GE160.out) | exact HB.out)⟩
                      · replace c121 := Bool.eq_false_iff.mpr c121
                        subst c121
                        have H1 : (some (a0_2 == 0)) = some r := by rw [if_neg (show ¬ (false = true) by decide)] at H; exact H
                        clear H
                        have H := H1
                        clear H1
                        obtain rfl := Option.some.inj H
                        have hnb127 := NB160_150.out
                        have hnc127 := NB150_160.out
                        have hnb128 := NB160_159.out
                        have hnc128 := NB159_160.out
                        have hcz129_0 : wc.cell? ⟨gb160, 0, none⟩ = some (.int .i64 t155) := (blk_cell BK160.out 0).trans rfl
                        have hcz129_1 : wc.cell? ⟨gb160, 1, none⟩ = some (.int .i64 t156) := (blk_cell BK160.out 1).trans rfl
                        have hfz129_0 := blk_frozen BK160.out 0
                        have hfz129_1 := blk_frozen BK160.out 1
                        have hnb130 := NB150_159.out
                        have hnc130 := NB159_150.out
                        have hcz131_0 : wc.cell? ⟨gb150, 0, none⟩ = some (.int .i64 a0_0) := (blk_cell BK150.out 0).trans rfl
                        have hcz131_1 : wc.cell? ⟨gb150, 1, none⟩ = some (.int .i64 a0_1) := (blk_cell BK150.out 1).trans rfl
                        have hcz131_2 : wc.cell? ⟨gb150, 2, none⟩ = some (.int .i64 a0_2) := (blk_cell BK150.out 2).trans rfl
                        have hcz131_3 : wc.cell? ⟨gb150, 3, none⟩ = some (.int .i64 a0_3) := (blk_cell BK150.out 3).trans rfl
                        have hcz131_4 : wc.cell? ⟨gb150, 4, none⟩ = some (.slice A0_4 l0_4.length c0_4) := (blk_cell BK150.out 4).trans rfl
                        have hcz131_5 : wc.cell? ⟨gb150, 5, none⟩ = some (.slice A0_5 l0_5.length c0_5) := (blk_cell BK150.out 5).trans rfl
                        have hfz131_0 := blk_frozen BK150.out 0
                        have hfz131_1 := blk_frozen BK150.out 1
                        have hfz131_2 := blk_frozen BK150.out 2
                        have hfz131_3 := blk_frozen BK150.out 3
                        have hfz131_4 := blk_frozen BK150.out 4
                        have hfz131_5 := blk_frozen BK150.out 5
                        go_wp2_with (first | (go_at_call 44; (with_reducible refine (impl_isWord.calls a0_2 false _ A120.out).mono ?_); rintro e w' ⟨rfl, ⟨nd, rfl⟩⟩))
                        go_ret
                        exact ⟨by first | rfl | (simp [errW_none, errW_some] <;> rfl) | (simp [*, errW_none, errW_some] <;> rfl), by repeat (first | (with_reducible first | exact HB.out | apply below_alloc | apply pw_below_drewN | apply below_drew1 | refine below_set ?_ GE150.out | refine below_set ?_ GE159.out | refine below_set ?_ GE160.out) | exact HB.out)⟩
                    · replace c119 := Bool.eq_false_iff.mpr c119
                      subst c119
                      have H1 : (some (a0_2 == 0)) = some r := by rw [if_neg (show ¬ (false = true) by decide)] at H; exact H
                      clear H
                      have H := H1
                      clear H1
                      obtain rfl := Option.some.inj H
                      have hnb132 := NB160_150.out
                      have hnc132 := NB150_160.out
                      have hnb133 := NB160_159.out
                      have hnc133 := NB159_160.out
                      have hcz134_0 : wc.cell? ⟨gb160, 0, none⟩ = some (.int .i64 t155) := (blk_cell BK160.out 0).trans rfl
                      have hcz134_1 : wc.cell? ⟨gb160, 1, none⟩ = some (.int .i64 t156) := (blk_cell BK160.out 1).trans rfl
                      have hfz134_0 := blk_frozen BK160.out 0
                      have hfz134_1 := blk_frozen BK160.out 1
                      have hnb135 := NB150_159.out
                      have hnc135 := NB159_150.out
                      have hcz136_0 : wc.cell? ⟨gb150, 0, none⟩ = some (.int .i64 a0_0) := (blk_cell BK150.out 0).trans rfl
                      have hcz136_1 : wc.cell? ⟨gb150, 1, none⟩ = some (.int .i64 a0_1) := (blk_cell BK150.out 1).trans rfl
                      have hcz136_2 : wc.cell? ⟨gb150, 2, none⟩ = some (.int .i64 a0_2) := (blk_cell BK150.out 2).trans rfl
                      have hcz136_3 : wc.cell? ⟨gb150, 3, none⟩ = some (.int .i64 a0_3) := (blk_cell BK150.out 3).trans rfl
                      have hcz136_4 : wc.cell? ⟨gb150, 4, none⟩ = some (.slice A0_4 l0_4.length c0_4) := (blk_cell BK150.out 4).trans rfl
                      have hcz136_5 : wc.cell? ⟨gb150, 5, none⟩ = some (.slice A0_5 l0_5.length c0_5) := (blk_cell BK150.out 5).trans rfl
                      have hfz136_0 := blk_frozen BK150.out 0
                      have hfz136_1 := blk_frozen BK150.out 1
                      have hfz136_2 := blk_frozen BK150.out 2
                      have hfz136_3 := blk_frozen BK150.out 3
                      have hfz136_4 := blk_frozen BK150.out 4
                      have hfz136_5 := blk_frozen BK150.out 5
                      go_wp2
                      go_ret
                      exact ⟨by first | rfl | (simp [errW_none, errW_some] <;> rfl) | (simp [*, errW_none, errW_some] <;> rfl), by repeat (first | (with_reducible first | exact HB.out | apply below_alloc | apply pw_below_drewN | apply below_drew1 | refine below_set ?_ GE150.out | refine below_set ?_ GE159.out | refine below_set ?_ GE160.out) | exact HB.out)⟩
              · rw [if_neg c41] at H
                have c41b0 : (((l0_5.length : Int) % 8) == 0) = false := beq_eq_false_iff_ne.mpr c41
                have c41b1 : (((l0_5.length : Int) % 8) != 0) = true := bne_iff_ne.mpr c41
                obtain rfl := Option.some.inj H
                have hnb137 := NB160_150.out
                have hnc137 := NB150_160.out
                have hnb138 := NB160_159.out
                have hnc138 := NB159_160.out
                have hcz139_0 : wc.cell? ⟨gb160, 0, none⟩ = some (.int .i64 t155) := (blk_cell BK160.out 0).trans rfl
                have hcz139_1 : wc.cell? ⟨gb160, 1, none⟩ = some (.int .i64 t156) := (blk_cell BK160.out 1).trans rfl
                have hfz139_0 := blk_frozen BK160.out 0
                have hfz139_1 := blk_frozen BK160.out 1
                have hnb140 := NB150_159.out
                have hnc140 := NB159_150.out
                have hcz141_0 : wc.cell? ⟨gb150, 0, none⟩ = some (.int .i64 a0_0) := (blk_cell BK150.out 0).trans rfl
                have hcz141_1 : wc.cell? ⟨gb150, 1, none⟩ = some (.int .i64 a0_1) := (blk_cell BK150.out 1).trans rfl
                have hcz141_2 : wc.cell? ⟨gb150, 2, none⟩ = some (.int .i64 a0_2) := (blk_cell BK150.out 2).trans rfl
                have hcz141_3 : wc.cell? ⟨gb150, 3, none⟩ = some (.int .i64 a0_3) := (blk_cell BK150.out 3).trans rfl
                have hcz141_4 : wc.cell? ⟨gb150, 4, none⟩ = some (.slice A0_4 l0_4.length c0_4) := (blk_cell BK150.out 4).trans rfl
                have hcz141_5 : wc.cell? ⟨gb150, 5, none⟩ = some (.slice A0_5 l0_5.length c0_5) := (blk_cell BK150.out 5).trans rfl
                have hfz141_0 := blk_frozen BK150.out 0
                have hfz141_1 := blk_frozen BK150.out 1
                have hfz141_2 := blk_frozen BK150.out 2
                have hfz141_3 := blk_frozen BK150.out 3
                have hfz141_4 := blk_frozen BK150.out 4
                have hfz141_5 := blk_frozen BK150.out 5
                go_wp2
                go_ret
                exact ⟨by first | rfl | (simp [errW_none, errW_some] <;> rfl) | (simp [*, errW_none, errW_some] <;> rfl), by repeat (first | (with_reducible first | exact HB.out | apply below_alloc | apply pw_below_drewN | apply below_drew1 | refine below_set ?_ GE150.out | refine below_set ?_ GE159.out | refine below_set ?_ GE160.out) | exact HB.out)⟩
            · rw [if_neg c40] at H
              have c40b0 : decide (1 < t156) = false := decide_eq_false c40
              clear c40
              by_cases c142 : t157 = 0
              · rw [if_pos c142] at H
                have c142b0 : (t157 == 0) = true := beq_iff_eq.mpr c142
                have c142b1 : (t157 != 0) = false := bne_eq_false_iff_eq.mpr c142
                clear c142
                by_cases c143 : a0_3 = 0
                · rw [if_pos c143] at H
                  have c143b0 : (a0_3 == 0) = true := beq_iff_eq.mpr c143
                  have c143b1 : (a0_3 != 0) = false := bne_eq_false_iff_eq.mpr c143
                  clear c143
                  by_cases c144 : t157 > 0
                  · rw [if_pos c144] at H
                    have c144b0 : decide (0 < t157) = true := decide_eq_true c144
                    clear c144
                    replace H := Option.bind_eq_some_iff.mp H
                    obtain ⟨t170, A1450, H⟩ := H
                    replace H : (if t170 = true then (if t158 = true then ((impl_isWord.f a0_2).bind fun t171 => (if t171 = true then (some true) else (some (a0_2 == 0)))) else (some (a0_2 == 0))) else (some false)) = some r := H
                    have A145 := Aside0.mk A1450
                    clear A1450
                    by_cases c146 : t170 = true
                    · subst c146
                      have H1 : (if t158 = true then ((impl_isWord.f a0_2).bind fun t171 => (if t171 = true then (some true) else (some (a0_2 == 0)))) else (some (a0_2 == 0))) = some r := by rw [if_pos rfl] at H; exact H
                      clear H
                      have H := H1
                      clear H1
                      by_cases c147 : t158 = true
                      · subst c147
                        have H1 : ((impl_isWord.f a0_2).bind fun t171 => (if t171 = true then (some true) else (some (a0_2 == 0)))) = some r := by rw [if_pos rfl] at H; exact H
                        clear H
                        have H := H1
                        clear H1
                        replace H := Option.bind_eq_some_iff.mp H
                        obtain ⟨t171, A1480, H⟩ := H
                        replace H : (if t171 = true then (some true) else (some (a0_2 == 0))) = some r := H
                        have A148 := Aside0.mk A1480
                        clear A1480
                        by_cases c149 : t171 = true
                        · subst c149
                          have H1 : (some true) = some r := by rw [if_pos rfl] at H; exact H
                          clear H
                          have H := H1
                          clear H1
                          obtain rfl := Option.some.inj H
                          have hnb150 := NB160_150.out
                          have hnc150 := NB150_160.out
                          have hnb151 := NB160_159.out
                          have hnc151 := NB159_160.out
                          have hcz152_0 : wc.cell? ⟨gb160, 0, none⟩ = some (.int .i64 t155) := (blk_cell BK160.out 0).trans rfl
                          have hcz152_1 : wc.cell? ⟨gb160, 1, none⟩ = some (.int .i64 t156) := (blk_cell BK160.out 1).trans rfl
                          have hfz152_0 := blk_frozen BK160.out 0
                          have hfz152_1 := blk_frozen BK160.out 1
                          have hnb153 := NB150_159.out
                          have hnc153 := NB159_150.out
                          have hcz154_0 : wc.cell? ⟨gb150, 0, none⟩ = some (.int .i64 a0_0) := (blk_cell BK150.out 0).trans rfl
                          have hcz154_1 : wc.cell? ⟨gb150, 1, none⟩ = some (.int .i64 a0_1) := (blk_cell BK150.out 1).trans rfl
                          have hcz154_2 : wc.cell? ⟨gb150, 2, none⟩ = some (.int .i64 a0_2) := (blk_cell BK150.out 2).trans rfl
                          have hcz154_3 : wc.cell? ⟨gb150, 3, none⟩ = some (.int .i64 a0_3) := (blk_cell BK150.out 3).trans rfl
                          have hcz154_4 : wc.cell? ⟨gb150, 4, none⟩ = some (.slice A0_4 l0_4.length c0_4) := (blk_cell BK150.out 4).trans rfl
                          have hcz154_5 : wc.cell? ⟨gb150, 5, none⟩ = some (.slice A0_5 l0_5.length c0_5) := (blk_cell BK150.out 5).trans rfl
                          have hfz154_0 := blk_frozen BK150.out 0
                          have hfz154_1 := blk_frozen BK150.out 1
                          have hfz154_2 := blk_frozen BK150.out 2
                          have hfz154_3 := blk_frozen BK150.out 3
                          have hfz154_4 := blk_frozen BK150.out 4
                          have hfz154_5 := blk_frozen BK150.out 5
                          go_wp2_with (first | (go_at_call 42; (with_reducible refine (impl_in.calls a0_3 1 t157 true _ A145.out).mono ?_); rintro e w' ⟨rfl, ⟨nd, rfl⟩⟩) | (go_at_call 44; (with_reducible refine (impl_isWord.calls a0_2 true _ A148.out).mono ?_); rintro e w' ⟨rfl, ⟨nd, rfl⟩⟩))
                          go_ret
                          exact ⟨by first | rfl | (simp [errW_none, errW_some] <;> rfl) | (simp [*, errW_none, errW_some] <;> rfl), by repeat (first | (with_reducible first | exact HB.out | apply below_alloc | apply pw_below_drewN | apply below_drew1 | refine below_set ?_ GE150.out | refine below_set ?_ GE159.out | refine below_set ?_ GE160.out) | exact HB.out)⟩
                        · replace c149 := Bool.eq_false_iff.mpr c149
                          subst c149
                          have H1 : (some (a0_2 == 0)) = some r := by rw [if_neg (show ¬ (false = true) by decide)] at H; exact H
                          clear H
                          have H := H1
                          clear H1
                          obtain rfl := Option.some.inj H
                          have hnb155 := NB160_150.out
                          have hnc155 := NB150_160.out
                          have hnb156 := NB160_159.out
                          have hnc156 := NB159_160.out
                          have hcz157_0 : wc.cell? ⟨gb160, 0, none⟩ = some (.int .i64 t155) := (blk_cell BK160.out 0).trans rfl
                          have hcz157_1 : wc.cell? ⟨gb160, 1, none⟩ = some (.int .i64 t156) := (blk_cell BK160.out 1).trans rfl
                          have hfz157_0 := blk_frozen BK160.out 0
                          have hfz157_1 := blk_frozen BK160.out 1
                          have hnb158 := NB150_159.out
                          have hnc158 := NB159_150.out
                          have hcz159_0 : wc.cell? ⟨gb150, 0, none⟩ = some (.int .i64 a0_0) := (blk_cell BK150.out 0).trans rfl
                          have hcz159_1 : wc.cell? ⟨gb150, 1, none⟩ = some (.int .i64 a0_1) := (blk_cell BK150.out 1).trans rfl
                          have hcz159_2 : wc.cell? ⟨gb150, 2, none⟩ = some (.int .i64 a0_2) := (blk_cell BK150.out 2).trans rfl
                          have hcz159_3 : wc.cell? ⟨gb150, 3, none⟩ = some (.int .i64 a0_3) := (blk_cell BK150.out 3).trans rfl
                          have hcz159_4 : wc.cell? ⟨gb150, 4, none⟩ = some (.slice A0_4 l0_4.length c0_4) := (blk_cell BK150.out 4).trans rfl
                          have hcz159_5 : wc.cell? ⟨gb150, 5, none⟩ = some (.slice A0_5 l0_5.length c0_5) := (blk_cell BK150.out 5).trans rfl
                          have hfz159_0 := blk_frozen BK150.out 0
                          have hfz159_1 := blk_frozen BK150.out 1
                          have hfz159_2 := blk_frozen BK150.out 2
                          have hfz159_3 := blk_frozen BK150.out 3
                          have hfz159_4 := blk_frozen BK150.out 4
                          have hfz159_5 := blk_frozen BK150.out 5
                          go_wp2_with (first | (go_at_call 42; (with_reducible refine (impl_in.calls a0_3 1 t157 true _ A145.out).mono ?_); rintro e w' ⟨rfl, ⟨nd, rfl⟩⟩) | (go_at_call 44; (with_reducible refine (impl_isWord.calls a0_2 false _ A148.out).mono ?_); rintro e w' ⟨rfl, ⟨nd, rfl⟩⟩))
                          go_ret
                          exact ⟨by first | rfl | (simp [errW_none, errW_some] <;> rfl) | (simp [*, errW_none, errW_some] <;> rfl), by repeat (first | (with_reducible first | exact HB.out | apply below_alloc | apply pw_below_drewN | apply below_drew1 | refine below_set ?_ GE150.out | refine below_set ?_ GE159.out | refine below_set ?_ GE160.out) | exact HB.out)⟩
                      · replace c147 := Bool.eq_false_iff.mpr c147
                        subst c147
                        have H1 : (some (a0_2 == 0)) = some r := by rw [if_neg (show ¬ (false = true) by decide)] at H; exact H
                        clear H
                        have H := H1
                        clear H1
                        obtain rfl := Option.some.inj H
                        have hnb160 := NB160_150.out
                        have hnc160 := NB150_160.out
                        have hnb161 := NB160_159.out
                        have hnc161 := NB159_160.out
                        have hcz162_0 : wc.cell? ⟨gb160, 0, none⟩ = some (.int .i64 t155) := (blk_cell BK160.out 0).trans rfl
                        have hcz162_1 : wc.cell? ⟨gb160, 1, none⟩ = some (.int .i64 t156) := (blk_cell BK160.out 1).trans rfl
                        have hfz162_0 := blk_frozen BK160.out 0
                        have hfz162_1 := blk_frozen BK160.out 1
                        have hnb163 := NB150_159.out
                        have hnc163 := NB159_150.out
                        have hcz164_0 : wc.cell? ⟨gb150, 0, none⟩ = some (.int .i64 a0_0) := (blk_cell BK150.out 0).trans rfl
                        have hcz164_1 : wc.cell? ⟨gb150, 1, none⟩ = some (.int .i64 a0_1) := (blk_cell BK150.out 1).trans rfl
                        have hcz164_2 : wc.cell? ⟨gb150, 2, none⟩ = some (.int .i64 a0_2) := (blk_cell BK150.out 2).trans rfl
                        have hcz164_3 : wc.cell? ⟨gb150, 3, none⟩ = some (.int .i64 a0_3) := (blk_cell BK150.out 3).trans rfl
                        have hcz164_4 : wc.cell? ⟨gb150, 4, none⟩ = some (.slice A0_4 l0_4.length c0_4) := (blk_cell BK150.out 4).trans rfl
                        have hcz164_5 : wc.cell? ⟨gb150, 5, none⟩ = some (.slice A0_5 l0_5.length c0_5) := (blk_cell BK150.out 5).trans rfl
                        have hfz164_0 := blk_frozen BK150.out 0
                        have hfz164_1 := blk_frozen BK150.out 1
                        have hfz164_2 := blk_frozen BK150.out 2
                        have hfz164_3 := blk_frozen BK150.out 3
                        have hfz164_4 := blk_frozen BK150.out 4
                        have hfz164_5 := blk_frozen BK150.out 5
                        go_wp2_with (first | (go_at_call 42; (with_reducible refine (impl_in.calls a0_3 1 t157 true _ A145.out).mono ?_); rintro e w' ⟨rfl, ⟨nd, rfl⟩⟩))
                        go_ret
                        exact ⟨by first | rfl | (simp [errW_none, errW_some] <;> rfl) | (simp [*, errW_none, errW_some] <;> rfl), by repeat (first | (with_reducible first | exact HB.out | apply below_alloc | apply pw_below_drewN | apply below_drew1 | refine below_set ?_ GE150.out | refine below_set ?_ GE159.out | refine below_set ?_ GE160.out) | exact HB.out)⟩
                    · replace c146 := Bool.eq_false_iff.mpr c146
                      subst c146
                      have H1 : (some false) = some r := by rw [if_neg (show ¬ (false = true) by decide)] at H; exact H
                      clear H
                      have H := H1
                      clear H1
                      obtain rfl := Option.some.inj H
                      have hnb165 := NB160_150.out
                      have hnc165 := NB150_160.out
                      have hnb166 := NB160_159.out
                      have hnc166 := NB159_160.out
                      have hcz167_0 : wc.cell? ⟨gb160, 0, none⟩ = some (.int .i64 t155) := (blk_cell BK160.out 0).trans rfl
                      have hcz167_1 : wc.cell? ⟨gb160, 1, none⟩ = some (.int .i64 t156) := (blk_cell BK160.out 1).trans rfl
                      have hfz167_0 := blk_frozen BK160.out 0
                      have hfz167_1 := blk_frozen BK160.out 1
                      have hnb168 := NB150_159.out
                      have hnc168 := NB159_150.out
                      have hcz169_0 : wc.cell? ⟨gb150, 0, none⟩ = some (.int .i64 a0_0) := (blk_cell BK150.out 0).trans rfl
                      have hcz169_1 : wc.cell? ⟨gb150, 1, none⟩ = some (.int .i64 a0_1) := (blk_cell BK150.out 1).trans rfl
                      have hcz169_2 : wc.cell? ⟨gb150, 2, none⟩ = some (.int .i64 a0_2) := (blk_cell BK150.out 2).trans rfl
                      have hcz169_3 : wc.cell? ⟨gb150, 3, none⟩ = some (.int .i64 a0_3) := (blk_cell BK150.out 3).trans rfl
                      have hcz169_4 : wc.cell? ⟨gb150, 4, none⟩ = some (.slice A0_4 l0_4.length c0_4) := (blk_cell BK150.out 4).trans rfl
                      have hcz169_5 : wc.cell? ⟨gb150, 5, none⟩ = some (.slice A0_5 l0_5.length c0_5) := (blk_cell BK150.out 5).trans rfl
                      have hfz169_0 := blk_frozen BK150.out 0
                      have hfz169_1 := blk_frozen BK150.out 1
                      have hfz169_2 := blk_frozen BK150.out 2
                      have hfz169_3 := blk_frozen BK150.out 3
                      have hfz169_4 := blk_frozen BK150.out 4
                      have hfz169_5 := blk_frozen BK150.out 5
                      go_wp2_with (first | (go_at_call 42; (with_reducible refine (impl_in.calls a0_3 1 t157 false _ A145.out).mono ?_); rintro e w' ⟨rfl, ⟨nd, rfl⟩⟩))
                      go_ret
                      exact ⟨by first | rfl | (simp [errW_none, errW_some] <;> rfl) | (simp [*, errW_none, errW_some] <;> rfl), by repeat (first | (with_reducible first | exact HB.out | apply below_alloc | apply pw_below_drewN | apply below_drew1 | refine below_set ?_ GE150.out | refine below_set ?_ GE159.out | refine below_set ?_ GE160.out) | exact HB.out)⟩
                  · rw [if_neg c144] at H
                    have c144b0 : decide (0 < t157) = false := decide_eq_false c144
                    clear c144
                    by_cases c170 : t158 = true
                    · subst c170
                      have H1 : ((impl_isWord.f a0_2).bind fun t172 => (if t172 = true then (some true) else (some (a0_2 == 0)))) = some r := by rw [if_pos rfl] at H; exact H
                      clear H
                      have H := H1
                      clear H1
                      replace H := Option.bind_eq_some_iff.mp H
                      obtain ⟨t172, A1710, H⟩ := H
                      replace H : (if t172 = true then (some true) else (some (a0_2 == 0))) = some r := H
                      have A171 := Aside0.mk A1710
                      clear A1710
                      by_cases c172 : t172 = true
                      · subst c172
                        have H1 : (some true) = some r := by rw [if_pos rfl] at H; exact H
                        clear H
                        have H := H1
                        clear H1
                        obtain rfl := Option.some.inj H
                        have hnb173 := NB160_150.out
                        have hnc173 := NB150_160.out
                        have hnb174 := NB160_159.out
                        have hnc174 := NB159_160.out
                        have hcz175_0 : wc.cell? ⟨gb160, 0, none⟩ = some (.int .i64 t155) := (blk_cell BK160.out 0).trans rfl
                        have hcz175_1 : wc.cell? ⟨gb160, 1, none⟩ = some (.int .i64 t156) := (blk_cell BK160.out 1).trans rfl
                        have hfz175_0 := blk_frozen BK160.out 0
                        have hfz175_1 := blk_frozen BK160.out 1
                        have hnb176 := NB150_159.out
                        have hnc176 := NB159_150.out
                        have hcz177_0 : wc.cell? ⟨gb150, 0, none⟩ = some (.int .i64 a0_0) := (blk_cell BK150.out 0).trans rfl
                        have hcz177_1 : wc.cell? ⟨gb150, 1, none⟩ = some (.int .i64 a0_1) := (blk_cell BK150.out 1).trans rfl
                        have hcz177_2 : wc.cell? ⟨gb150, 2, none⟩ = some (.int .i64 a0_2) := (blk_cell BK150.out 2).trans rfl
                        have hcz177_3 : wc.cell? ⟨gb150, 3, none⟩ = some (.int .i64 a0_3) := (blk_cell BK150.out 3).trans rfl
                        have hcz177_4 : wc.cell? ⟨gb150, 4, none⟩ = some (.slice A0_4 l0_4.length c0_4) := (blk_cell BK150.out 4).trans rfl
                        have hcz177_5 : wc.cell? ⟨gb150, 5, none⟩ = some (.slice A0_5 l0_5.length c0_5) := (blk_cell BK150.out 5).trans rfl
                        have hfz177_0 := blk_frozen BK150.out 0
                        have hfz177_1 := blk_frozen BK150.out 1
                        have hfz177_2 := blk_frozen BK150.out 2
                        have hfz177_3 := blk_frozen BK150.out 3
                        have hfz177_4 := blk_frozen BK150.out 4
                        have hfz177_5 := blk_frozen BK150.out 5
                        go_wp2_with (first | (go_at_call 44; (with_reducible refine (impl_isWord.calls a0_2 true _ A171.out).mono ?_); rintro e w' ⟨rfl, ⟨nd, rfl⟩⟩))
                        go_ret
                        exact ⟨by first | rfl | (simp [errW_none, errW_some] <;> rfl) | (simp [*, errW_none, errW_some] <;> rfl), by repeat (first | (with_reducible first | exact HB.out | apply below_alloc | apply pw_below_drewN | apply below_drew1 | refine below_set ?_ GE150.out | refine below_set ?_ GE159.out | refine below_set ?_ GE160.out) | exact HB.out)⟩
                      · replace c172 := Bool.eq_false_iff.mpr c172
                        subst c172
                        have H1 : (some (a0_2 == 0)) = some r := by rw [if_neg (show ¬ (false = true) by decide)] at H; exact H
                        clear H
                        have H := H1
                        clear H1
                        obtain rfl := Option.some.inj H
                        have hnb178 := NB160_150.out
                        have hnc178 := NB150_160.out
                        have hnb179 := NB160_159.out
                        have hnc179 := NB159_160.out
                        have hcz180_0 : wc.cell? ⟨gb160, 0, none⟩ = some (.int .i64 t155) := (blk_cell BK160.out 0).trans rfl
                        have hcz180_1 : wc.cell? ⟨gb160, 1, none⟩ = some (.int .i64 t156) := (blk_cell BK160.out 1).trans rfl
                        have hfz180_0 := blk_frozen BK160.out 0
                        have hfz180_1 := blk_frozen BK160.out 1
                        have hnb181 := NB150_159.out
                        have hnc181 := NB159_150.out
                        have hcz182_0 : wc.cell? ⟨gb150, 0, none⟩ = some (.int .i64 a0_0) := (blk_cell BK150.out 0).trans rfl
                        have hcz182_1 : wc.cell? ⟨gb150, 1, none⟩ = some (.int .i64 a0_1) := (blk_cell BK150.out 1).trans rfl
                        have hcz182_2 : wc.cell? ⟨gb150, 2, none⟩ = some (.int .i64 a0_2) := (blk_cell BK150.out 2).trans rfl
                        have hcz182_3 : wc.cell? ⟨gb150, 3, none⟩ = some (.int .i64 a0_3) := (blk_cell BK150.out 3).trans rfl
                        have hcz182_4 : wc.cell? ⟨gb150, 4, none⟩ = some (.slice A0_4 l0_4.length c0_4) := (blk_cell BK150.out 4).trans rfl
                        have hcz182_5 : wc.cell? ⟨gb150, 5, none⟩ = some (.slice A0_5 l0_5.length c0_5) := (blk_cell BK150.out 5).trans rfl
                        have hfz182_0 := blk_frozen BK150.out 0
                        have hfz182_1 := blk_frozen BK150.out 1
                        have hfz182_2 := blk_frozen BK150.out 2
                        have hfz182_3 := blk_frozen BK150.out 3
                        have hfz182_4 := blk_frozen BK150.out 4
                        have hfz182_5 := blk_frozen BK150.out 5
                        go_wp2_with (first | (go_at_call 44; (with_reducible refine (impl_isWord.calls a0_2 false _ A171.out).mono ?_); rintro e w' ⟨rfl, ⟨nd, rfl⟩⟩))
                        go_ret
                        exact ⟨by first | rfl | (simp [errW_none, errW_some] <;> rfl) | (simp [*, errW_none, errW_some] <;> rfl), by repeat (first | (with_reducible first | exact HB.out | apply below_alloc | apply pw_below_drewN | apply below_drew1 | refine below_set ?_ GE150.out | refine below_set ?_ GE159.out | refine below_set ?_ GE160.out) | exact HB.out)⟩
                    · replace c170 := Bool.eq_false_iff.mpr c170
                      subst c170
                      have H1 : (some (a0_2 == 0)) = some r := by rw [if_neg (show ¬ (false = true) by decide)] at H; exact H
                      clear H
                      have H := H1
                      clear H1
                      obtain rfl := Option.some.inj H
                      have hnb183 := NB160_150.out
                      have hnc183 := NB150_160.out
                      have hnb184 := NB160_159.out
                      have hnc184 := NB159_160.out
                      have hcz185_0 : wc.cell? ⟨gb160, 0, none⟩ = some (.int .i64 t155) := (blk_cell BK160.out 0).trans rfl
                      have hcz185_1 : wc.cell? ⟨gb160, 1, none⟩ = some (.int .i64 t156) := (blk_cell BK160.out 1).trans rfl
                      have hfz185_0 := blk_frozen BK160.out 0
                      have hfz185_1 := blk_frozen BK160.out 1
                      have hnb186 := NB150_159.out
                      have hnc186 := NB159_150.out
                      have hcz187_0 : wc.cell? ⟨gb150, 0, none⟩ = some (.int .i64 a0_0) := (blk_cell BK150.out 0).trans rfl
                      have hcz187_1 : wc.cell? ⟨gb150, 1, none⟩ = some (.int .i64 a0_1) := (blk_cell BK150.out 1).trans rfl
                      have hcz187_2 : wc.cell? ⟨gb150, 2, none⟩ = some (.int .i64 a0_2) := (blk_cell BK150.out 2).trans rfl
                      have hcz187_3 : wc.cell? ⟨gb150, 3, none⟩ = some (.int .i64 a0_3) := (blk_cell BK150.out 3).trans rfl
                      have hcz187_4 : wc.cell? ⟨gb150, 4, none⟩ = some (.slice A0_4 l0_4.length c0_4) := (blk_cell BK150.out 4).trans rfl
                      have hcz187_5 : wc.cell? ⟨gb150, 5, none⟩ = some (.slice A0_5 l0_5.length c0_5) := (blk_cell BK150.out 5).trans rfl
                      have hfz187_0 := blk_frozen BK150.out 0
                      have hfz187_1 := blk_frozen BK150.out 1
                      have hfz187_2 := blk_frozen BK150.out 2
                      have hfz187_3 := blk_frozen BK150.out 3
                      have hfz187_4 := blk_frozen BK150.out 4
                      have hfz187_5 := blk_frozen BK150.out 5
                      go_wp2
                      go_ret
                      exact ⟨by first | rfl | (simp [errW_none, errW_some] <;> rfl) | (simp [*, errW_none, errW_some] <;> rfl), by repeat (first | (with_reducible first | exact HB.out | apply below_alloc | apply pw_below_drewN | apply below_drew1 | refine below_set ?_ GE150.out | refine below_set ?_ GE159.out | refine below_set ?_ GE160.out) | exact HB.out)⟩
                · rw [if_neg c143] at H
                  have c143b0 : (a0_3 == 0) = false := beq_eq_false_iff_ne.mpr c143
                  have c143b1 : (a0_3 != 0) = true := bne_iff_ne.mpr c143
                  obtain rfl := Option.some.inj H
                  have hnb188 := NB160_150.out
                  have hnc188 := NB150_160.out
                  have hnb189 := NB160_159.out
                  have hnc189 := NB159_160.out
                  have hcz190_0 : wc.cell? ⟨gb160, 0, none⟩ = some (.int .i64 t155) := (blk_cell BK160.out 0).trans rfl
                  have hcz190_1 : wc.cell? ⟨gb160, 1, none⟩ = some (.int .i64 t156) := (blk_cell BK160.out 1).trans rfl
                  have hfz190_0 := blk_frozen BK160.out 0
                  have hfz190_1 := blk_frozen BK160.out 1
                  have hnb191 := NB150_159.out
                  have hnc191 := NB159_150.out
                  have hcz192_0 : wc.cell? ⟨gb150, 0, none⟩ = some (.int .i64 a0_0) := (blk_cell BK150.out 0).trans rfl
                  have hcz192_1 : wc.cell? ⟨gb150, 1, none⟩ = some (.int .i64 a0_1) := (blk_cell BK150.out 1).trans rfl
                  have hcz192_2 : wc.cell? ⟨gb150, 2, none⟩ = some (.int .i64 a0_2) := (blk_cell BK150.out 2).trans rfl
                  have hcz192_3 : wc.cell? ⟨gb150, 3, none⟩ = some (.int .i64 a0_3) := (blk_cell BK150.out 3).trans rfl
                  have hcz192_4 : wc.cell? ⟨gb150, 4, none⟩ = some (.slice A0_4 l0_4.length c0_4) := (blk_cell BK150.out 4).trans rfl
                  have hcz192_5 : wc.cell? ⟨gb150, 5, none⟩ = some (.slice A0_5 l0_5.length c0_5) := (blk_cell BK150.out 5).trans rfl
                  have hfz192_0 := blk_frozen BK150.out 0
                  have hfz192_1 := blk_frozen BK150.out 1
                  have hfz192_2 := blk_frozen BK150.out 2
                  have hfz192_3 := blk_frozen BK150.out 3
                  have hfz192_4 := blk_frozen BK150.out 4
                  have hfz192_5 := blk_frozen BK150.out 5
                  go_wp2
                  go_ret
                  exact ⟨by first | rfl | (simp [errW_none, errW_some] <;> rfl) | (simp [*, errW_none, errW_some] <;> rfl), by repeat (first | (with_reducible first | exact HB.out | apply below_alloc | apply pw_below_drewN | apply below_drew1 | refine below_set ?_ GE150.out | refine below_set ?_ GE159.out | refine below_set ?_ GE160.out) | exact HB.out)⟩
              · rw [if_neg c142] at H
                have c142b0 : (t157 == 0) = false := beq_eq_false_iff_ne.mpr c142
                have c142b1 : (t157 != 0) = true := bne_iff_ne.mpr c142
                by_cases c193 : t157 > 0
                · rw [if_pos c193] at H
                  have c193b0 : decide (0 < t157) = true := decide_eq_true c193
                  clear c193
                  replace H := Option.bind_eq_some_iff.mp H
                  obtain ⟨t173, A1940, H⟩ := H
                  replace H : (if t173 = true then (if t158 = true then ((impl_isWord.f a0_2).bind fun t174 => (if t174 = true then (some true) else (some (a0_2 == 0)))) else (some (a0_2 == 0))) else (some false)) = some r := H
                  have A194 := Aside0.mk A1940
                  clear A1940
                  by_cases c195 : t173 = true
                  · subst c195
                    have H1 : (if t158 = true then ((impl_isWord.f a0_2).bind fun t174 => (if t174 = true then (some true) else (some (a0_2 == 0)))) else (some (a0_2 == 0))) = some r := by rw [if_pos rfl] at H; exact H
                    clear H
                    have H := H1
                    clear H1
                    by_cases c196 : t158 = true
                    · subst c196
                      have H1 : ((impl_isWord.f a0_2).bind fun t174 => (if t174 = true then (some true) else (some (a0_2 == 0)))) = some r := by rw [if_pos rfl] at H; exact H
                      clear H
                      have H := H1
                      clear H1
                      replace H := Option.bind_eq_some_iff.mp H
                      obtain ⟨t174, A1970, H⟩ := H
                      replace H : (if t174 = true then (some true) else (some (a0_2 == 0))) = some r := H
                      have A197 := Aside0.mk A1970
                      clear A1970
                      by_cases c198 : t174 = true
                      · subst c198
                        have H1 : (some true) = some r := by rw [if_pos rfl] at H; exact H
                        clear H
                        have H := H1
                        clear H1
                        obtain rfl := Option.some.inj H
                        have hnb199 := NB160_150.out
                        have hnc199 := NB150_160.out
                        have hnb200 := NB160_159.out
                        have hnc200 := NB159_160.out
                        have hcz201_0 : wc.cell? ⟨gb160, 0, none⟩ = some (.int .i64 t155) := (blk_cell BK160.out 0).trans rfl
                        have hcz201_1 : wc.cell? ⟨gb160, 1, none⟩ = some (.int .i64 t156) := (blk_cell BK160.out 1).trans rfl
                        have hfz201_0 := blk_frozen BK160.out 0
                        have hfz201_1 := blk_frozen BK160.out 1
                        have hnb202 := NB150_159.out
                        have hnc202 := NB159_150.out
                        have hcz203_0 : wc.cell? ⟨gb150, 0, none⟩ = some (.int .i64 a0_0) := (blk_cell BK150.out 0).trans rfl
                        have hcz203_1 : wc.cell? ⟨gb150, 1, none⟩ = some (.int .i64 a0_1) := (blk_cell BK150.out 1).trans rfl
                        have hcz203_2 : wc.cell? ⟨gb150, 2, none⟩ = some (.int .i64 a0_2) := (blk_cell BK150.out 2).trans rfl
                        have hcz203_3 : wc.cell? ⟨gb150, 3, none⟩ = some (.int .i64 a0_3) := (blk_cell BK150.out 3).trans rfl
                        have hcz203_4 : wc.cell? ⟨gb150, 4, none⟩ = some (.slice A0_4 l0_4.length c0_4) := (blk_cell BK150.out 4).trans rfl
                        have hcz203_5 : wc.cell? ⟨gb150, 5, none⟩ = some (.slice A0_5 l0_5.length c0_5) := (blk_cell BK150.out 5).trans rfl
                        have hfz203_0 := blk_frozen BK150.out 0
                        have hfz203_1 := blk_frozen BK150.out 1
                        have hfz203_2 := blk_frozen BK150.out 2
                        have hfz203_3 := blk_frozen BK150.out 3
                        have hfz203_4 := blk_frozen BK150.out 4
                        have hfz203_5 := blk_frozen BK150.out 5
                        go_wp2_with (first | (go_at_call 42; (with_reducible refine (impl_in.calls a0_3 1 t157 true _ A194.out).mono ?_); rintro e w' ⟨rfl, ⟨nd, rfl⟩⟩) | (go_at_call 44; (with_reducible refine (impl_isWord.calls a0_2 true _ A197.out).mono ?_); rintro e w' ⟨rfl, ⟨nd, rfl⟩⟩))
                        go_ret
                        exact ⟨by first | rfl | (simp [errW_none, errW_some] <;> rfl) | (simp [*, errW_none, errW_some] <;> rfl), by repeat (first | (with_reducible first | exact HB.out | apply below_alloc | apply pw_below_drewN | apply below_drew1 | refine below_set ?_ GE150.out | refine below_set ?_ GE159.out | refine below_set ?_ GE160.out) | exact HB.out)⟩
                      · replace c198 := Bool.eq_false_iff.mpr c198
                        subst c198
                        have H1 : (some (a0_2 == 0)) = some r := by rw [if_neg (show ¬ (false = true) by decide)] at H; exact H
                        clear H
                        have H := H1
                        clear H1
                        obtain rfl := Option.some.inj H
                        have hnb204 := NB160_150.out
                        have hnc204 := NB150_160.out
                        have hnb205 := NB160_159.out
                        have hnc205 := NB159_160.out
                        have hcz206_0 : wc.cell? ⟨gb160, 0, none⟩ = some (.int .i64 t155) := (blk_cell BK160.out 0).trans rfl
                        have hcz206_1 : wc.cell? ⟨gb160, 1, none⟩ = some (.int .i64 t156) := (blk_cell BK160.out 1).trans rfl
                        have hfz206_0 := blk_frozen BK160.out 0
                        have hfz206_1 := blk_frozen BK160.out 1
                        have hnb207 := NB150_159.out
                        have hnc207 := NB159_150.out
                        have hcz208_0 : wc.cell? ⟨gb150, 0, none⟩ = some (.int .i64 a0_0) := (blk_cell BK150.out 0).trans rfl
                        have hcz208_1 : wc.cell? ⟨gb150, 1, none⟩ = some (.int .i64 a0_1) := (blk_cell BK150.out 1).trans rfl
                        have hcz208_2 : wc.cell? ⟨gb150, 2, none⟩ = some (.int .i64 a0_2) := (blk_cell BK150.out 2).trans rfl
                        have hcz208_3 : wc.cell? ⟨gb150, 3, none⟩ = some (.int .i64 a0_3) := (blk_cell BK150.out 3).trans rfl
                        have hcz208_4 : wc.cell? ⟨gb150, 4, none⟩ = some (.slice A0_4 l0_4.length c0_4) := (blk_cell BK150.out 4).trans rfl
                        have hcz208_5 : wc.cell? ⟨gb150, 5, none⟩ = some (.slice A0_5 l0_5.length c0_5) := (blk_cell BK150.out 5).trans rfl
                        have hfz208_0 := blk_frozen BK150.out 0
                        have hfz208_1 := blk_frozen BK150.out 1
                        have hfz208_2 := blk_frozen BK150.out 2
                        have hfz208_3 := blk_frozen BK150.out 3
                        have hfz208_4 := blk_frozen BK150.out 4
                        have hfz208_5 := blk_frozen BK150.out 5
                        go_wp2_with (first | (go_at_call 42; (with_reducible refine (impl_in.calls a0_3 1 t157 true _ A194.out).mono ?_); rintro e w' ⟨rfl, ⟨nd, rfl⟩⟩) | (go_at_call 44; (with_reducible refine (impl_isWord.calls a0_2 false _ A197.out).mono ?_); rintro e w' ⟨rfl, ⟨nd, rfl⟩⟩))
                        go_ret
                        exact ⟨by first | rfl | (simp [errW_none, errW_some] <;> rfl) | (simp [*, errW_none, errW_some] <;> rfl), by repeat (first | (with_reducible first | exact HB.out | apply below_alloc | apply pw_below_drewN | apply below_drew1 | refine below_set ?_ GE150.out | refine below_set ?_ GE159.out | refine below_set ?_ GE160.out) | exact HB.out)⟩
                    · replace c196 := Bool.eq_false_iff.mpr c196
                      subst c196
                      have H1 : (some (a0_2 == 0)) = some r := by rw [if_neg (show ¬ (false = true) by decide)] at H; exact H
                      clear H
                      have H := H1
                      clear H1
                      obtain rfl := Option.some.inj H
                      have hnb209 := NB160_150.out
                      have hnc209 := NB150_160.out
                      have hnb210 := NB160_159.out
                      have hnc210 := NB159_160.out
                      have hcz211_0 : wc.cell? ⟨gb160, 0, none⟩ = some (.int .i64 t155) := (blk_cell BK160.out 0).trans rfl
                      have hcz211_1 : wc.cell? ⟨gb160, 1, none⟩ = some (.int .i64 t156) := (blk_cell BK160.out 1).trans rfl
                      have hfz211_0 := blk_frozen BK160.out 0
                      have hfz211_1 := blk_frozen BK160.out 1
                      have hnb212 := NB150_159.out
                      have hnc212 := NB159_150.out
                      have hcz213_0 : wc.cell? ⟨gb150, 0, none⟩ = some (.int .i64 a0_0) := (blk_cell BK150.out 0).trans rfl
                      have hcz213_1 : wc.cell? ⟨gb150, 1, none⟩ = some (.int .i64 a0_1) := (blk_cell BK150.out 1).trans rfl
                      have hcz213_2 : wc.cell? ⟨gb150, 2, none⟩ = some (.int .i64 a0_2) := (blk_cell BK150.out 2).trans rfl
                      have hcz213_3 : wc.cell? ⟨gb150, 3, none⟩ = some (.int .i64 a0_3) := (blk_cell BK150.out 3).trans rfl
                      have hcz213_4 : wc.cell? ⟨gb150, 4, none⟩ = some (.slice A0_4 l0_4.length c0_4) := (blk_cell BK150.out 4).trans rfl
                      have hcz213_5 : wc.cell? ⟨gb150, 5, none⟩ = some (.slice A0_5 l0_5.length c0_5) := (blk_cell BK150.out 5).trans rfl
                      have hfz213_0 := blk_frozen BK150.out 0
                      have hfz213_1 := blk_frozen BK150.out 1
                      have hfz213_2 := blk_frozen BK150.out 2
                      have hfz213_3 := blk_frozen BK150.out 3
                      have hfz213_4 := blk_frozen BK150.out 4
                      have hfz213_5 := blk_frozen BK150.out 5
                      go_wp2_with (first | (go_at_call 42; (with_reducible refine (impl_in.calls a0_3 1 t157 true _ A194.out).mono ?_); rintro e w' ⟨rfl, ⟨nd, rfl⟩⟩))
                      go_ret
                      exact ⟨by first | rfl | (simp [errW_none, errW_some] <;> rfl) | (simp [*, errW_none, errW_some] <;> rfl), by repeat (first | (with_reducible first | exact HB.out | apply below_alloc | apply pw_below_drewN | apply below_drew1 | refine below_set ?_ GE150.out | refine below_set ?_ GE159.out | refine below_set ?_ GE160.out) | exact HB.out)⟩
                  · replace c195 := Bool.eq_false_iff.mpr c195
                    subst c195
                    have H1 : (some false) = some r := by rw [if_neg (show ¬ (false = true) by decide)] at H; exact H
                    clear H
                    have H := H1
                    clear H1
                    obtain rfl := Option.some.inj H
                    have hnb214 := NB160_150.out
                    have hnc214 := NB150_160.out
                    have hnb215 := NB160_159.out
                    have hnc215 := NB159_160.out
                    have hcz216_0 : wc.cell? ⟨gb160, 0, none⟩ = some (.int .i64 t155) := (blk_cell BK160.out 0).trans rfl
                    have hcz216_1 : wc.cell? ⟨gb160, 1, none⟩ = some (.int .i64 t156) := (blk_cell BK160.out 1).trans rfl
                    have hfz216_0 := blk_frozen BK160.out 0
                    have hfz216_1 := blk_frozen BK160.out 1
                    have hnb217 := NB150_159.out
                    have hnc217 := NB159_150.out
                    have hcz218_0 : wc.cell? ⟨gb150, 0, none⟩ = some (.int .i64 a0_0) := (blk_cell BK150.out 0).trans rfl
                    have hcz218_1 : wc.cell? ⟨gb150, 1, none⟩ = some (.int .i64 a0_1) := (blk_cell BK150.out 1).trans rfl
                    have hcz218_2 : wc.cell? ⟨gb150, 2, none⟩ = some (.int .i64 a0_2) := (blk_cell BK150.out 2).trans rfl
                    have hcz218_3 : wc.cell? ⟨gb150, 3, none⟩ = some (.int .i64 a0_3) := (blk_cell BK150.out 3).trans rfl
                    have hcz218_4 : wc.cell? ⟨gb150, 4, none⟩ = some (.slice A0_4 l0_4.length c0_4) := (blk_cell BK150.out 4).trans rfl
                    have hcz218_5 : wc.cell? ⟨gb150, 5, none⟩ = some (.slice A0_5 l0_5.length c0_5) := (blk_cell BK150.out 5).trans rfl
                    have hfz218_0 := blk_frozen BK150.out 0
                    have hfz218_1 := blk_frozen BK150.out 1
                    have hfz218_2 := blk_frozen BK150.out 2
                    have hfz218_3 := blk_frozen BK150.out 3
                    have hfz218_4 := blk_frozen BK150.out 4
                    have hfz218_5 := blk_frozen BK150.out 5
                    go_wp2_with (first | (go_at_call 42; (with_reducible refine (impl_in.calls a0_3 1 t157 false _ A194.out).mono ?_); rintro e w' ⟨rfl, ⟨nd, rfl⟩⟩))
                    go_ret
                    exact ⟨by first | rfl | (simp [errW_none, errW_some] <;> rfl) | (simp [*, errW_none, errW_some] <;> rfl), by repeat (first | (with_reducible first | exact HB.out | apply below_alloc | apply pw_below_drewN | apply below_drew1 | refine below_set ?_ GE150.out | refine below_set ?_ GE159.out | refine below_set ?_ GE160.out) | exact HB.out)⟩
                · rw [if_neg c193] at H
                  have c193b0 : decide (0 < t157) = false := decide_eq_false c193
                  clear c193
                  by_cases c219 : t158 = true
                  · subst c219
                    have H1 : ((impl_isWord.f a0_2).bind fun t175 => (if t175 = true then (some true) else (some (a0_2 == 0)))) = some r := by rw [if_pos rfl] at H; exact H
                    clear H
                    have H := H1
                    clear H1
                    replace H := Option.bind_eq_some_iff.mp H
                    obtain ⟨t175, A2200, H⟩ := H
                    replace H : (if t175 = true then (some true) else (some (a0_2 == 0))) = some r := H
                    have A220 := Aside0.mk A2200
                    clear A2200
                    by_cases c221 : t175 = true
                    · subst c221
                      have H1 : (some true) = some r := by rw [if_pos rfl] at H; exact H
                      clear H
                      have H := H1
                      clear H1
                      obtain rfl := Option.some.inj H
                      have hnb222 := NB160_150.out
                      have hnc222 := NB150_160.out
                      have hnb223 := NB160_159.out
                      have hnc223 := NB159_160.out
                      have hcz224_0 : wc.cell? ⟨gb160, 0, none⟩ = some (.int .i64 t155) := (blk_cell BK160.out 0).trans rfl
                      have hcz224_1 : wc.cell? ⟨gb160, 1, none⟩ = some (.int .i64 t156) := (blk_cell BK160.out 1).trans rfl
                      have hfz224_0 := blk_frozen BK160.out 0
                      have hfz224_1 := blk_frozen BK160.out 1
                      have hnb225 := NB150_159.out
                      have hnc225 := NB159_150.out
                      have hcz226_0 : wc.cell? ⟨gb150, 0, none⟩ = some (.int .i64 a0_0) := (blk_cell BK150.out 0).trans rfl
                      have hcz226_1 : wc.cell? ⟨gb150, 1, none⟩ = some (.int .i64 a0_1) := (blk_cell BK150.out 1).trans rfl
                      have hcz226_2 : wc.cell? ⟨gb150, 2, none⟩ = some (.int .i64 a0_2) := (blk_cell BK150.out 2).trans rfl
                      have hcz226_3 : wc.cell? ⟨gb150, 3, none⟩ = some (.int .i64 a0_3) := (blk_cell BK150.out 3).trans rfl
                      have hcz226_4 : wc.cell? ⟨gb150, 4, none⟩ = some (.slice A0_4 l0_4.length c0_4) := (blk_cell BK150.out 4).trans rfl
                      have hcz226_5 : wc.cell? ⟨gb150, 5, none⟩ = some (.slice A0_5 l0_5.length c0_5) := (blk_cell BK150.out 5).trans rfl
                      have hfz226_0 := blk_frozen BK150.out 0
                      have hfz226_1 := blk_frozen BK150.out 1
                      have hfz226_2 := blk_frozen BK150.out 2
                      have hfz226_3 := blk_frozen BK150.out 3
                      have hfz226_4 := blk_frozen BK150.out 4
                      have hfz226_5 := blk_frozen BK150.out 5
                      go_wp2_with (first | (go_at_call 44; (with_reducible refine (impl_isWord.calls a0_2 true _ A220.out).mono ?_); rintro e w' ⟨rfl, ⟨nd, rfl⟩⟩))
                      go_ret
                      exact ⟨by first | rfl | (simp [errW_none, errW_some] <;> rfl) | (simp [*, errW_none, errW_some] <;> rfl), by repeat (first | (with_reducible first | exact HB.out | apply below_alloc | apply pw_below_drewN | apply below_drew1 | refine below_set ?_ GE150.out | refine below_set ?_ GE159.out | refine below_set ?_ GE160.out) | exact HB.out)⟩
                    · replace c221 := Bool.eq_false_iff.mpr c221
                      subst c221
                      have H1 : (some (a0_2 == 0)) = some r := by rw [if_neg (show ¬ (false = true) by decide)] at H; exact H
                      clear H
                      have H := H1
                      clear H1
                      obtain rfl := Option.some.inj H
                      have hnb227 := NB160_150.out
                      have hnc227 := NB150_160.out
                      have hnb228 := NB160_159.out
                      have hnc228 := NB159_160.out
                      have hcz229_0 : wc.cell? ⟨gb160, 0, none⟩ = some (.int .i64 t155) := (blk_cell BK160.out 0).trans rfl
                      have hcz229_1 : wc.cell? ⟨gb160, 1, none⟩ = some (.int .i64 t156) := (blk_cell BK160.out 1).trans rfl
                      have hfz229_0 := blk_frozen BK160.out 0
                      have hfz229_1 := blk_frozen BK160.out 1
                      have hnb230 := NB150_159.out
                      have hnc230 := NB159_150.out
                      have hcz231_0 : wc.cell? ⟨gb150, 0, none⟩ = some (.int .i64 a0_0) := (blk_cell BK150.out 0).trans rfl
                      have hcz231_1 : wc.cell? ⟨gb150, 1, none⟩ = some (.int .i64 a0_1) := (blk_cell BK150.out 1).trans rfl
                      have hcz231_2 : wc.cell? ⟨gb150, 2, none⟩ = some (.int .i64 a0_2) := (blk_cell BK150.out 2).trans rfl
                      have hcz231_3 : wc.cell? ⟨gb150, 3, none⟩ = some (.int .i64 a0_3) := (blk_cell BK150.out 3).trans rfl
                      have hcz231_4 : wc.cell? ⟨gb150, 4, none⟩ = some (.slice A0_4 l0_4.length c0_4) := (blk_cell BK150.out 4).trans rfl
                      have hcz231_5 : wc.cell? ⟨gb150, 5, none⟩ = some (.slice A0_5 l0_5.length c0_5) := (blk_cell BK150.out 5).trans rfl
                      have hfz231_0 := blk_frozen BK150.out 0
                      have hfz231_1 := blk_frozen BK150.out 1
                      have hfz231_2 := blk_frozen BK150.out 2
                      have hfz231_3 := blk_frozen BK150.out 3
                      have hfz231_4 := blk_frozen BK150.out 4
                      have hfz231_5 := blk_frozen BK150.out 5
                      go_wp2_with (first | (go_at_call 44; (with_reducible refine (impl_isWord.calls a0_2 false _ A220.out).mono ?_); rintro e w' ⟨rfl, ⟨nd, rfl⟩⟩))
                      go_ret
                      exact ⟨by first | rfl | (simp [errW_none, errW_some] <;> rfl) | (simp [*, errW_none, errW_some] <;> rfl), by repeat (first | (with_reducible first | exact HB.out | apply below_alloc | apply pw_below_drewN | apply below_drew1 | refine below_set ?_ GE150.out | refine below_set ?_ GE159.out | refine below_set ?_ GE160.out) | exact HB.out)⟩
                  · replace c219 := Bool.eq_false_iff.mpr c219
                    subst c219
                    have H1 : (some (a0_2 == 0)) = some r := by rw [if_neg (show ¬ (false = true) by decide)] at H; exact H
                    clear H
                    have H := H1
                    clear H1
                    obtain rfl := Option.some.inj H
                    have hnb232 := NB160_150.out
                    have hnc232 := NB150_160.out
                    have hnb233 := NB160_159.out
                    have hnc233 := NB159_160.out
                    have hcz234_0 : wc.cell? ⟨gb160, 0, none⟩ = some (.int .i64 t155) := (blk_cell BK160.out 0).trans rfl
                    have hcz234_1 : wc.cell? ⟨gb160, 1, none⟩ = some (.int .i64 t156) := (blk_cell BK160.out 1).trans rfl
                    have hfz234_0 := blk_frozen BK160.out 0
                    have hfz234_1 := blk_frozen BK160.out 1
                    have hnb235 := NB150_159.out
                    have hnc235 := NB159_150.out
                    have hcz236_0 : wc.cell? ⟨gb150, 0, none⟩ = some (.int .i64 a0_0) := (blk_cell BK150.out 0).trans rfl
                    have hcz236_1 : wc.cell? ⟨gb150, 1, none⟩ = some (.int .i64 a0_1) := (blk_cell BK150.out 1).trans rfl
                    have hcz236_2 : wc.cell? ⟨gb150, 2, none⟩ = some (.int .i64 a0_2) := (blk_cell BK150.out 2).trans rfl
                    have hcz236_3 : wc.cell? ⟨gb150, 3, none⟩ = some (.int .i64 a0_3) := (blk_cell BK150.out 3).trans rfl
                    have hcz236_4 : wc.cell? ⟨gb150, 4, none⟩ = some (.slice A0_4 l0_4.length c0_4) := (blk_cell BK150.out 4).trans rfl
                    have hcz236_5 : wc.cell? ⟨gb150, 5, none⟩ = some (.slice A0_5 l0_5.length c0_5) := (blk_cell BK150.out 5).trans rfl
                    have hfz236_0 := blk_frozen BK150.out 0
                    have hfz236_1 := blk_frozen BK150.out 1
                    have hfz236_2 := blk_frozen BK150.out 2
                    have hfz236_3 := blk_frozen BK150.out 3
                    have hfz236_4 := blk_frozen BK150.out 4
                    have hfz236_5 := blk_frozen BK150.out 5
                    go_wp2
                    go_ret
                    exact ⟨by first | rfl | (simp [errW_none, errW_some] <;> rfl) | (simp [*, errW_none, errW_some] <;> rfl), by repeat (first | (with_reducible first | exact HB.out | apply below_alloc | apply pw_below_drewN | apply below_drew1 | refine below_set ?_ GE150.out | refine below_set ?_ GE159.out | refine below_set ?_ GE160.out) | exact HB.out)⟩
    · rw [if_neg c4] at H
      have c4b0 : (a0_1 == 0) = false := beq_eq_false_iff_ne.mpr c4
      have c4b1 : (a0_1 != 0) = true := bne_iff_ne.mpr c4
      replace H := Option.bind_eq_some_iff.mp H
      obtain ⟨t152, A2370, H⟩ := H
      replace H : (some t152) = some r := H
      have A237 := Aside0.mk A2370
      clear A2370
      obtain rfl := Option.some.inj H
      go_enter Try.func11, Try.ntmps11
      go_wp2_with (first | ((with_reducible refine gate_dst (N := 1) rfl ?_); (try (refine gate_guard (by rfl) ?_; dsimp only)); refine box_event ?hg (N := 1) ?hd (cs := #[.int .i64 a0_0, .int .i64 a0_1, .int .i64 a0_2, .int .i64 a0_3, .slice A0_4 l0_4.length c0_4, .slice A0_5 l0_5.length c0_5]) (t := 28) ?hr ?_; (case hd => rfl); (case hg => rfl); (case hr => first | (go_simp; done) | (go_simp; rfl)); intro gb150 hg w238 hbox hb; have n0_ := Aside0.mk (below_step (by repeat (first | (with_reducible first | exact HB.out | apply below_alloc | apply pw_below_drewN | apply below_drew1) | exact HB.out)) hb); have n1_ := Aside0.mk (hbox); have n2_ := Aside0.mk ((by rw [hg]; exact (below_size (by repeat (first | (with_reducible first | exact HB.out | apply below_alloc | apply pw_below_drewN | apply below_drew1) | exact HB.out))) : w.heap.size ≤ gb150)); have n3_ := Aside0.mk ((by rw [hg]; exact (below_size (by repeat (first | (with_reducible first | exact HB.out | apply below_alloc | apply pw_below_drewN | apply below_drew1) | exact HB.out))) : w.heap.size ≤ gb150)); clear HB; have HB := n0_; have BK150 := n1_; have GW150 := n2_; have GE150 := n3_; clear n0_ n1_ n2_ n3_; clear hb hbox hg; have hcz239_0 : w238.cell? ⟨gb150, 0, none⟩ = some (.int .i64 a0_0) := (blk_cell BK150.out 0).trans rfl; have hcz239_1 : w238.cell? ⟨gb150, 1, none⟩ = some (.int .i64 a0_1) := (blk_cell BK150.out 1).trans rfl; have hcz239_2 : w238.cell? ⟨gb150, 2, none⟩ = some (.int .i64 a0_2) := (blk_cell BK150.out 2).trans rfl; have hcz239_3 : w238.cell? ⟨gb150, 3, none⟩ = some (.int .i64 a0_3) := (blk_cell BK150.out 3).trans rfl; have hcz239_4 : w238.cell? ⟨gb150, 4, none⟩ = some (.slice A0_4 l0_4.length c0_4) := (blk_cell BK150.out 4).trans rfl; have hcz239_5 : w238.cell? ⟨gb150, 5, none⟩ = some (.slice A0_5 l0_5.length c0_5) := (blk_cell BK150.out 5).trans rfl; have hfz239_0 := blk_frozen BK150.out 0; have hfz239_1 := blk_frozen BK150.out 1; have hfz239_2 := blk_frozen BK150.out 2; have hfz239_3 := blk_frozen BK150.out 3; have hfz239_4 := blk_frozen BK150.out 4; have hfz239_5 := blk_frozen BK150.out 5) | ((with_reducible refine gate_callee (f := 39) rfl ?_); refine goesL_ (some 9) rfl rfl Try.func39 (by kernel_rfl) rfl #[.int .i64 a0_0] rfl (by (try simp only [List.map_toArray, List.map_cons, List.map_nil]); first | done | rfl | (simp only [List.length_drop, List.length_take]; rfl)) ?_; (with_reducible refine (impl_isKind.calls a0_0 true _ A2.out).mono ?_); rintro e w' ⟨rfl, ⟨nd, rfl⟩⟩; refine ⟨_, rfl, ?_⟩) | ((with_reducible refine gate_callee (f := 40) rfl ?_); refine goesL_ (some 15) rfl rfl Try.func40 (by kernel_rfl) rfl #[.agg #[.int .i64 a0_0, .int .i64 a0_1, .int .i64 a0_2, .int .i64 a0_3, .slice A0_4 l0_4.length c0_4, .slice A0_5 l0_5.length c0_5]] rfl (by (try simp only [List.map_toArray, List.map_cons, List.map_nil]); first | done | rfl | (simp only [List.length_drop, List.length_take]; rfl)) ?_; (with_reducible refine (impl_isFault.calls a0_0 a0_1 a0_2 a0_3 _ _ l0_4 _ _ l0_5 t152 _ ?side1 ?side2 ?side3 ?side4 A237.out).mono ?_); (case side1 => repeat (first | exact (Kd.C_below HR0_4.out (by repeat (first | (with_reducible first | exact HB.out | apply below_alloc | apply pw_below_drewN | apply below_drew1 | refine below_set ?_ GE150.out) | exact HB.out))) | (with_reducible refine Kd.C_alloc ?_ _) | (with_reducible refine Kd.C_drewN ?_ _) | (with_reducible refine Kd.C_drew ?_))); (case side2 => exact HC0_4.out); (case side3 => repeat (first | exact (Kd.C_below HR0_5.out (by repeat (first | (with_reducible first | exact HB.out | apply below_alloc | apply pw_below_drewN | apply below_drew1 | refine below_set ?_ GE150.out) | exact HB.out))) | (with_reducible refine Kd.C_alloc ?_ _) | (with_reducible refine Kd.C_drewN ?_ _) | (with_reducible refine Kd.C_drew ?_))); (case side4 => exact HC0_5.out); rintro e w240 ⟨rfl, hb⟩; refine ⟨_, rfl, ?_⟩; have n0_ := Aside0.mk (blk_below (g := gb150) (o := .cells #[.int .i64 a0_0, .int .i64 a0_1, .int .i64 a0_2, .int .i64 a0_3, .slice A0_4 l0_4.length c0_4, .slice A0_5 l0_5.length c0_5] 28 (0, 0)) (by (with_reducible repeat (first | refine blk_drewN ?_ _ | refine blk_drew ?_ | refine blk_alloc ?_ _)); exact BK150.out) hb); have n1_ := Aside0.mk (below_step (by repeat (first | (with_reducible first | exact HB.out | apply below_alloc | apply pw_below_drewN | apply below_drew1 | refine below_set ?_ GE150.out) | exact HB.out)) hb); clear BK150; clear HB; have BK150 := n0_; have HB := n1_; clear n0_ n1_; (try clear hb); (try clear hb2); (try clear hk); (try clear hi)))
      go_ret
      exact ⟨by first | rfl | (simp [errW_none, errW_some] <;> rfl) | (simp [*, errW_none, errW_some] <;> rfl), by repeat (first | (with_reducible first | exact HB.out | apply below_alloc | apply pw_below_drewN | apply below_drew1 | refine below_set ?_ GE150.out) | exact HB.out)⟩
  · replace c3 := Bool.eq_false_iff.mpr c3
    subst c3
    have H1 : (some false) = some r := by rw [if_neg (show ¬ (false = true) by decide)] at H; exact H
    clear H
    have H := H1
    clear H1
    obtain rfl := Option.some.inj H
    go_enter Try.func11, Try.ntmps11
    go_wp2_with (first | ((with_reducible refine gate_dst (N := 1) rfl ?_); (try (refine gate_guard (by rfl) ?_; dsimp only)); refine box_event ?hg (N := 1) ?hd (cs := #[.int .i64 a0_0, .int .i64 a0_1, .int .i64 a0_2, .int .i64 a0_3, .slice A0_4 l0_4.length c0_4, .slice A0_5 l0_5.length c0_5]) (t := 28) ?hr ?_; (case hd => rfl); (case hg => rfl); (case hr => first | (go_simp; done) | (go_simp; rfl)); intro gb150 hg w241 hbox hb; have n0_ := Aside0.mk (below_step (by repeat (first | (with_reducible first | exact HB.out | apply below_alloc | apply pw_below_drewN | apply below_drew1) | exact HB.out)) hb); have n1_ := Aside0.mk (hbox); have n2_ := Aside0.mk ((by rw [hg]; exact (below_size (by repeat (first | (with_reducible first | exact HB.out | apply below_alloc | apply pw_below_drewN | apply below_drew1) | exact HB.out))) : w.heap.size ≤ gb150)); have n3_ := Aside0.mk ((by rw [hg]; exact (below_size (by repeat (first | (with_reducible first | exact HB.out | apply below_alloc | apply pw_below_drewN | apply below_drew1) | exact HB.out))) : w.heap.size ≤ gb150)); clear HB; have HB := n0_; have BK150 := n1_; have GW150 := n2_; have GE150 := n3_; clear n0_ n1_ n2_ n3_; clear hb hbox hg; have hcz242_0 : w241.cell? ⟨gb150, 0, none⟩ = some (.int .i64 a0_0) := (blk_cell BK150.out 0).trans rfl; have hcz242_1 : w241.cell? ⟨gb150, 1, none⟩ = some (.int .i64 a0_1) := (blk_cell BK150.out 1).trans rfl; have hcz242_2 : w241.cell? ⟨gb150, 2, none⟩ = some (.int .i64 a0_2) := (blk_cell BK150.out 2).trans rfl; have hcz242_3 : w241.cell? ⟨gb150, 3, none⟩ = some (.int .i64 a0_3) := (blk_cell BK150.out 3).trans rfl; have hcz242_4 : w241.cell? ⟨gb150, 4, none⟩ = some (.slice A0_4 l0_4.length c0_4) := (blk_cell BK150.out 4).trans rfl; have hcz242_5 : w241.cell? ⟨gb150, 5, none⟩ = some (.slice A0_5 l0_5.length c0_5) := (blk_cell BK150.out 5).trans rfl; have hfz242_0 := blk_frozen BK150.out 0; have hfz242_1 := blk_frozen BK150.out 1; have hfz242_2 := blk_frozen BK150.out 2; have hfz242_3 := blk_frozen BK150.out 3; have hfz242_4 := blk_frozen BK150.out 4; have hfz242_5 := blk_frozen BK150.out 5) | ((with_reducible refine gate_callee (f := 39) rfl ?_); refine goesL_ (some 9) rfl rfl Try.func39 (by kernel_rfl) rfl #[.int .i64 a0_0] rfl (by (try simp only [List.map_toArray, List.map_cons, List.map_nil]); first | done | rfl | (simp only [List.length_drop, List.length_take]; rfl)) ?_; (with_reducible refine (impl_isKind.calls a0_0 false _ A2.out).mono ?_); rintro e w' ⟨rfl, ⟨nd, rfl⟩⟩; refine ⟨_, rfl, ?_⟩))
    go_ret
    exact ⟨by first | rfl | (simp [errW_none, errW_some] <;> rfl) | (simp [*, errW_none, errW_some] <;> rfl), by repeat (first | (with_reducible first | exact HB.out | apply below_alloc | apply pw_below_drewN | apply below_drew1 | refine below_set ?_ GE150.out) | exact HB.out)⟩

end Go.Proofs.Ytbdifcgkokajlaa.PFnExactRespOk
