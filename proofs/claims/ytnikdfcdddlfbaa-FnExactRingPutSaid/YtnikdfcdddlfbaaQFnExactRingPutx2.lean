/- Functions and contracts of the law FnExactRingPut: what the Go text computes, step by step. -/
import Derived.Test.YtnikdfcdddlfbaaL
import Derived.Test.YtnikdfcdddlfbaaQFnExactRingPutx0
import Derived.Test.YtnikdfcdddlfbaaQFnExactRingPutx1
namespace Go.Proofs.Ytnikdfcdddlfbaa.PFnExactRingPut
open Go.Proofs.Ytnikdfcdddlfbaa.K Go.Proofs.Ytnikdfcdddlfbaa.G Go.RowKit Go.Proofs.YtnikdfcdddlfbaaW.PrintWords Go.Proofs.YtnikdfcdddlfbaaW.PrintLast Go.Proofs.YtnikdfcdddlfbaaW.PrintMore
attribute [local go_sem] max2_int min2_int max_two min_two max_three min_three max_four min_four   -- for this text's walks alone
set_option linter.unusedVariables false
set_option linter.unusedSimpArgs false

/-! ### impl_RingPut: function 65 -/
def impl_RingPut.f (l0_0 : List Int) (l1 : List Int) : Option (List Int × Int) := (impl_RingOk.f l0_0).bind fun t129 => (if t129 = true then (if 0 ≤ (mn (l1.length : Int) (wrap64 (300 - (l0_0.length : Int)))) then (if (mn (l1.length : Int) (wrap64 (300 - (l0_0.length : Int)))) ≤ (l1.length : Int) then ((slices_Concat_byte_byte.f (([l0_0, (l1.take ((mn (l1.length : Int) (wrap64 (300 - (l0_0.length : Int)))) : Int).toNat)] : List (List Int)))).bind fun t138 => (some (t138, wrap64 ((l1.length : Int) - (mn (l1.length : Int) (wrap64 (300 - (l0_0.length : Int)))))))) else (none)) else (none)) else ((slices_Clone_byte_byte.f l0_0).bind fun t141 => (some (t141, (l1.length : Int)))))
def impl_RingPut.T4 : Bool × List (List Nat × List Nat) := (true, [([], []), ([0], [0]), ([], []), ([], []), ([2, 3], [2, 3]), ([1, 4], [1, 4]), ([5], [5]), ([6], [6]), ([], []), ([8], [8]), ([], []), ([9, 10], [9, 10]), ([7, 6, 0, 1, 2, 3, 4, 5, 6, 7], [7]), ([11, 12, 0, 1, 2, 3, 4, 5, 6, 7, 8, 9, 10, 11, 12], [11])])
def impl_RingPut.B4 : List Nat := [0, 1, 0, 0, 12, 31, 63, 127, 0, 256, 0, 1792, 255, 8191]
theorem impl_RingPut.tab4 : rtab .any (opsOf Try.f65 4) = impl_RingPut.T4 := by kernel_rfl
theorem impl_RingPut.bits4 : waitsOk impl_RingPut.T4.2 impl_RingPut.B4 = true := by kernel_rfl
set_option maxHeartbeats 8000000 in
set_option maxRecDepth 100000 in
theorem impl_RingPut.calls (P0_0_ : Nat → Prop) (A0_0 : Option Addr) (c0_0 : Nat) (l0_0 : List Int) (P1_ : Nat → Prop) (A1 : Option Addr) (c1 : Nat) (l1 : List Int) (r1 : List Int) (r2 : Int) (w : World) (hs0_0 : Kd.V (Kd.int .u8) 5 w w.heap.size (fun k_ => P0_0_ k_) (.slice A0_0 l0_0.length c0_0) l0_0) (hs1 : Kd.V (Kd.int .u8) 5 w w.heap.size (fun k_ => P1_ k_) (.slice A1 l1.length c1) l1) (h : impl_RingPut.f l0_0 l1 = some (r1, r2)) :
  Calls Try.prog 65 #[.agg #[.slice A0_0 l0_0.length c0_0], .slice A1 l1.length c1] w fun e w' => ∃ v0_ : Value, e = .returned (.tuple #[.agg #[v0_], .int .i64 r2]) ∧ Kd.R (Kd.int .u8) 5 w' w.heap.size (fun k_ => (w.heap.size ≤ k_)) v0_ r1 ∧ Below w.heap.size w w' := by
 have hu27 := Try.underlying27
 have HO0_0 := aM (show Kd.V (Kd.int .u8) 5 w w.heap.size (fun k_ => ((P0_0_ k_ ∨ P1_ k_) ∨ w.heap.size ≤ k_)) (.slice A0_0 l0_0.length c0_0) l0_0 from Kd.V_mono hs0_0 (fun k_ hk => .inl (.inl hk)))
 have HO1 := aM (show Kd.V (Kd.int .u8) 5 w w.heap.size (fun k_ => ((P0_0_ k_ ∨ P1_ k_) ∨ w.heap.size ≤ k_)) (.slice A1 l1.length c1) l1 from Kd.V_mono hs1 (fun k_ hk => .inl (.inr hk)))
 have HB := aM (Below.refl w.heap.size w)
 have H : ((impl_RingOk.f l0_0).bind fun t129 => (if t129 = true then (if 0 ≤ (mn (l1.length : Int) (wrap64 (300 - (l0_0.length : Int)))) then (if (mn (l1.length : Int) (wrap64 (300 - (l0_0.length : Int)))) ≤ (l1.length : Int) then ((slices_Concat_byte_byte.f (([l0_0, (l1.take ((mn (l1.length : Int) (wrap64 (300 - (l0_0.length : Int)))) : Int).toNat)] : List (List Int)))).bind fun t138 => (some (t138, wrap64 ((l1.length : Int) - (mn (l1.length : Int) (wrap64 (300 - (l0_0.length : Int)))))))) else (none)) else (none)) else ((slices_Clone_byte_byte.f l0_0).bind fun t141 => (some (t141, (l1.length : Int)))))) = some (r1, r2) := h
 clear h
 replace H := Option.bind_eq_some_iff.mp H
 obtain ⟨t129, A30, H⟩ := H
 replace H : (if t129 = true then (if 0 ≤ (mn (l1.length : Int) (wrap64 (300 - (l0_0.length : Int)))) then (if (mn (l1.length : Int) (wrap64 (300 - (l0_0.length : Int)))) ≤ (l1.length : Int) then ((slices_Concat_byte_byte.f (([l0_0, (l1.take ((mn (l1.length : Int) (wrap64 (300 - (l0_0.length : Int)))) : Int).toNat)] : List (List Int)))).bind fun t138 => (some (t138, wrap64 ((l1.length : Int) - (mn (l1.length : Int) (wrap64 (300 - (l0_0.length : Int)))))))) else (none)) else (none)) else ((slices_Clone_byte_byte.f l0_0).bind fun t141 => (some (t141, (l1.length : Int))))) = some (r1, r2) := H
 have A3 := aM A30
 clear A30
 by_cases c4 : t129 = true
 ·subst c4
  have H1 : (if 0 ≤ (mn (l1.length : Int) (wrap64 (300 - (l0_0.length : Int)))) then (if (mn (l1.length : Int) (wrap64 (300 - (l0_0.length : Int)))) ≤ (l1.length : Int) then ((slices_Concat_byte_byte.f (([l0_0, (l1.take ((mn (l1.length : Int) (wrap64 (300 - (l0_0.length : Int)))) : Int).toNat)] : List (List Int)))).bind fun t138 => (some (t138, wrap64 ((l1.length : Int) - (mn (l1.length : Int) (wrap64 (300 - (l0_0.length : Int)))))))) else (none)) else (none)) = some (r1, r2) := by rw [if_pos rfl] at H; exact H
  clear H
  have H := H1
  clear H1
  obtain ⟨ji5, hji5⟩ : ∃ j_ : Int, (mn (l1.length : Int) (wrap64 (300 - (l0_0.length : Int)))) = j_ := ⟨_, rfl⟩
  replace H : (if 0 ≤ (ji5) then (if (ji5) ≤ (l1.length : Int) then ((slices_Concat_byte_byte.f (([l0_0, (l1.take ((ji5) : Int).toNat)] : List (List Int)))).bind fun t138 => (some (t138, wrap64 ((l1.length : Int) - (ji5))))) else (none)) else (none)) = some (r1, r2) := by first | (rw [hji5] at H; exact H) | (simp only [hji5] at H ⊢; exact H)
  (try rw [hji5] at A3)
  have hji5_ : (if (wrap64 (300 - (l0_0.length : Int))) < (l1.length : Int) then (wrap64 (300 - (l0_0.length : Int))) else (l1.length : Int)) = ji5 := hji5
  by_cases c6 : 0 ≤ (ji5)
  ·rw [if_pos c6] at H
   have c6b0 := eq_true c6
   have c6b1 : decide (0 ≤ (ji5)) = true := decide_eq_true c6
   clear c6
   by_cases c7 : (ji5) ≤ (l1.length : Int)
   ·rw [if_pos c7] at H
    have c7b0 := eq_true c7
    have c7b1 : decide ((ji5) ≤ (l1.length : Int)) = true := decide_eq_true c7
    clear c7
    obtain ⟨y130, hy130⟩ : ∃ y_ : List Int, y_ = (l1.take ((ji5) : Int).toNat) := ⟨_, rfl⟩
    replace H : ((slices_Concat_byte_byte.f (([l0_0, y130] : List (List Int)))).bind fun t138 => (some (t138, wrap64 ((l1.length : Int) - (ji5))))) = some (r1, r2) := by first | (rw [hy130]; with_reducible exact H) | (have H2_ := (Option.bind_some _ _).symm.trans H; rw [hy130]; with_reducible exact H2_) | (have H2_ := (Option.bind_some _ _).symm.trans H; with_reducible exact H2_) | with_reducible exact H | (rw [hy130]; exact H) | exact H
    have Ny130 := aM hy130
    clear hy130
    obtain ⟨y135, hy135⟩ : ∃ y_ : List (List Int), y_ = (([l0_0, y130] : List (List Int))) := ⟨_, rfl⟩
    replace H : ((slices_Concat_byte_byte.f y135).bind fun t138 => (some (t138, wrap64 ((l1.length : Int) - (ji5))))) = some (r1, r2) := by first | (rw [hy135]; with_reducible exact H) | (have H2_ := (Option.bind_some _ _).symm.trans H; rw [hy135]; with_reducible exact H2_) | (have H2_ := (Option.bind_some _ _).symm.trans H; with_reducible exact H2_) | with_reducible exact H | (rw [hy135]; exact H) | exact H
    have Ny135 := aM hy135
    clear hy135
    replace H := Option.bind_eq_some_iff.mp H
    obtain ⟨t138, A80, H⟩ := H
    replace H : (some (t138, wrap64 ((l1.length : Int) - (ji5)))) = some (r1, r2) := H
    have A8 := aM A80
    clear A80
    simp only [Option.some.injEq, Prod.mk.injEq] at H
    obtain ⟨rfl, rfl⟩ := H
    go_enter Try.func65, Try.ntmps65
    try go_wp2_with (first | ((with_reducible refine gate_dst (N := 2) rfl ?_); refine box_event ?hg (N := 2) ?hd (cs := #[.slice A0_0 l0_0.length c0_0]) (t := 27) ?hr ?_; (case hd => rfl); (case hg => rfl); (case hr => first | (go_simp; done) | (go_simp; rfl)); intro gb127 hg w9 hbox hb; have _ := aM (Kd.V_below (Kd.V_elderB (by (with_reducible repeat (first | apply Kd.V_alloc | apply Kd.V_drewN | apply Kd.V_drew)); exact HO0_0.out) gb127 (Nat.le_of_eq hg.symm)) hb); have _ := aM (Kd.V_below (Kd.V_elderB (by (with_reducible repeat (first | apply Kd.V_alloc | apply Kd.V_drewN | apply Kd.V_drew)); exact HO1.out) gb127 (Nat.le_of_eq hg.symm)) hb); have _ := aM (below_step (bS HB.out) hb); have _ := aM (hbox); have _ := aM (leG hg (bS HB.out)); have _ := aM (leG hg (bS HB.out)); clear HO0_0 HO1 HB; rename_i HO0_0 HO1 HB BK127 GW127 GE127; clear hb hbox hg) | ((with_reducible refine gate_dst (N := 4) rfl ?_); refine box_event ?hg (N := 4) ?hd (cs := #[.slice none 0 0]) (t := 27) ?hr ?_; (case hd => rfl); (case hg => rfl); (case hr => first | (go_simp; done) | (go_simp; rfl)); intro gb128 hg w10 hbox hb; have _ := aM (Kd.V_below (Kd.V_elderB (by (with_reducible repeat (first | apply Kd.V_alloc | apply Kd.V_drewN | apply Kd.V_drew)); exact HO0_0.out) gb128 (Nat.le_of_eq hg.symm)) hb); have _ := aM (Kd.V_below (Kd.V_elderB (by (with_reducible repeat (first | apply Kd.V_alloc | apply Kd.V_drewN | apply Kd.V_drew)); exact HO1.out) gb128 (Nat.le_of_eq hg.symm)) hb); have _ := aM (kB BK127.out hb); have _ := aM (below_step (bS HB.out) hb); have _ := aM (hbox); have _ := aM (leG hg (bS HB.out)); have _ := aM (leG hg (bS HB.out)); have _ := aM (neL hg (kA BK127.out)); have _ := aM (neG hg (kA BK127.out)); clear HO0_0 HO1 BK127 HB; rename_i HO0_0 HO1 BK127 HB BK128 GW128 GE128 NB127_128 NB128_127; clear hb hbox hg; have hnb11 := NB127_128.out; have hnc11 := NB128_127.out; obtain ⟨hcz12_0, hfz12_0⟩ := bk1 BK127.out) | ((with_reducible refine gate_callee (f := 20) rfl ?_); refine gL (some 8) rfl rfl Try.func20 (by kernel_rfl) rfl #[.agg #[.slice A0_0 l0_0.length c0_0]] rfl ?_; (with_reducible refine (impl_RingOk.calls _ _ l0_0 true _ ?side1 ?side2 A3.out).mono ?_); (case side1 => repeat (first | exact (Kd.V_reads' HO0_0.out).2.2 | (with_reducible refine Kd.C_alloc ?_ _) | (with_reducible refine Kd.C_drewN ?_ _) | (with_reducible refine Kd.C_drew ?_))); (case side2 => exact (Kd.V_reads' HO0_0.out).2.1); rintro e w13 ⟨rfl, hb⟩; refine ⟨_, rfl, ?_⟩; have _ := aM (Kd.V_below (by (with_reducible repeat (first | apply Kd.V_alloc | apply Kd.V_drewN | apply Kd.V_drew)); exact HO0_0.out) hb); have _ := aM (Kd.V_below (by (with_reducible repeat (first | apply Kd.V_alloc | apply Kd.V_drewN | apply Kd.V_drew)); exact HO1.out) hb); have _ := aM (kB BK127.out hb); have _ := aM (kB BK128.out hb); have _ := aM (below_step (bS HB.out) hb); clear HO0_0 HO1 BK127 BK128 HB; rename_i HO0_0 HO1 BK127 BK128 HB; (try clear hb); obtain ⟨hcz14_0, hfz14_0⟩ := bk1 BK127.out))
    have n0_ := aM (Kd.V_drew HO0_0.out)
    have n1_ := aM (Kd.V_drew HO1.out)
    have n2_ := aM (blk_drew BK127.out)
    have n3_ := aM (blk_drew BK128.out)
    have n4_ := aM (below_drew1 HB.out)
    clear HO0_0
    clear HO1
    clear BK127
    clear BK128
    clear HB
    have HO0_0 := n0_
    have HO1 := n1_
    have BK127 := n2_
    have BK128 := n3_
    have HB := n4_
    clear n0_ n1_ n2_ n3_ n4_
    have q16 : ((ji5) : Int) ≤ ((l1.length : Int) : Int) := of_decide_eq_true (by first | (with_reducible assumption) | assumption)
    obtain ⟨i016, hi016, _, hsz16, _⟩ := info_parts info5
    have hroom16 : l1.length ≤ c1 := (Kd.V_reads' HO1.out).2.1
    have hC16 : Kd.F (Kd.int .u8) _ _ A1 l1.length l1 := (Kd.V_at (base := w.heap.size) HO1.out).2.2
    have hcut16 := cut_to (P := Try.prog) 22 5 .i64 Try.underlying22 hi016 A1 l1.length c1 (ji5) (of_decide_eq_true (by first | (with_reducible assumption) | assumption)) q16 hroom16
    have hr16 := Kd.F_take (m := ((ji5) : Int).toNat) hC16 (by omega)
    have hy16 : y130.length = ((ji5) : Int).toNat := (by rw [Ny130.out, List.length_take]; omega)
    rw [← Ny130.out] at hr16
    rw [← hy16] at hcut16
    have HO134 := aM (show Kd.V (Kd.int .u8) 5 _ w.heap.size _ (.slice A1 y130.length c1) y130 from Kd.V_mk (by omega) hr16)
    have HC134 := aM (show y130.length ≤ c1 from by omega)
    clear hr16 hC16 hroom16 hi016 hsz16
    have KY16 := aM hy16
    clear hy16
    replace q16 := eq_true q16
    refine start_ (n := 14) (S := fun w' => w'.cell? ⟨gb127, 0, none⟩ = some (.slice A0_0 l0_0.length c0_0)) (ds := []) #[false, false, false, false, false, false, false, false, false, false, false, false, false, false] (by kernel_rfl) rfl rfl ((blk_cell BK127.out 0).trans rfl) (fun hHeld => ?_); refine with_tabW impl_RingPut.tab4 impl_RingPut.bits4 (fun HT_ HW_ => ?_)
    generalize w13.drew = w15 at HO0_0 HO1 BK127 BK128 HB HO134 hHeld ⊢
    refine pure_ (i := 0) (N := some 23) (v := ?_) (a' := ?_) #[true, false, false, false, false, false, false, false, false, false, false, false, false, false] rfl rfl (any_of HT_.out (by kernel_rfl)) (fun _ _ _ h => h) (Or.inl ⟨by rfl, ?_⟩) ?_ ?_
    rotate_left
    ·intro w'
     go_simp
     with_reducible rfl
    rotate_left
    ·simp only [Act.put, List.setIfInBounds_toArray, List.set_cons_zero, List.set_cons_succ, i64_w, i32_w]
     rfl
    refine pure_ (i := 2) (N := some 25) (v := ?_) (a' := ?_) #[true, false, true, false, false, false, false, false, false, false, false, false, false, false] rfl rfl (any_of HT_.out (by kernel_rfl)) (fun _ _ _ h => h) (Or.inl ⟨by rfl, ?_⟩) ?_ ?_
    rotate_left
    ·intro w'
     go_simp
     with_reducible rfl
    rotate_left
    ·simp only [Act.put, List.setIfInBounds_toArray, List.set_cons_zero, List.set_cons_succ, i64_w, i32_w]
     rfl
    refine pure_ (i := 3) (N := some 26) (v := ?_) (a' := ?_) #[true, false, true, true, false, false, false, false, false, false, false, false, false, false] rfl rfl (any_of HT_.out (by kernel_rfl)) (fun _ _ _ h => h) (Or.inl ⟨by rfl, ?_⟩) ?_ ?_
    rotate_left
    ·intro w'
     go_simp
     with_reducible rfl
    rotate_left
    ·simp only [Act.put, List.setIfInBounds_toArray, List.set_cons_zero, List.set_cons_succ, i64_w, i32_w]
     rfl
    refine pure_ (i := 4) (N := some 27) (v := ?_) (a' := ?_) #[true, false, true, true, true, false, false, false, false, false, false, false, false, false] rfl rfl (any_of HT_.out (by kernel_rfl)) (fun _ _ _ h => h) (Or.inl ⟨by rfl, ?_⟩) ?_ ?_
    rotate_left
    ·intro w'
     go_simp
     with_reducible rfl
    rotate_left
    ·simp only [Act.put, List.setIfInBounds_toArray, List.set_cons_zero, List.set_cons_succ, i64_w, i32_w]
     rfl
    refine pure_ (i := 8) (N := some 31) (v := ?_) (a' := ?_) #[true, false, true, true, true, false, false, false, true, false, false, false, false, false] rfl rfl (any_of HT_.out (by kernel_rfl)) (fun _ _ _ h => h) (Or.inl ⟨by rfl, ?_⟩) ?_ ?_
    rotate_left
    ·intro w'
     go_simp
     with_reducible rfl
    rotate_left
    ·simp only [Act.put, List.setIfInBounds_toArray, List.set_cons_zero, List.set_cons_succ, i64_w, i32_w]
     rfl
    refine pure_ (i := 9) (N := some 32) (v := ?_) (a' := ?_) #[true, false, true, true, true, false, false, false, true, true, false, false, false, false] rfl rfl (any_of HT_.out (by kernel_rfl)) (fun _ _ _ h => h) (Or.inl ⟨by rfl, ?_⟩) ?_ ?_
    rotate_left
    ·intro w'
     go_simp
     with_reducible rfl
    rotate_left
    ·simp only [Act.put, List.setIfInBounds_toArray, List.set_cons_zero, List.set_cons_succ, i64_w, i32_w]
     rfl
    refine pure_ (i := 10) (N := some 33) (v := ?_) (a' := ?_) #[true, false, true, true, true, false, false, false, true, true, true, false, false, false] rfl rfl (any_of HT_.out (by kernel_rfl)) (fun _ _ _ h => h) (Or.inl ⟨by rfl, ?_⟩) ?_ ?_
    rotate_left
    ·intro w'
     go_simp
     with_reducible rfl
    rotate_left
    ·simp only [Act.put, List.setIfInBounds_toArray, List.set_cons_zero, List.set_cons_succ, i64_w, i32_w]
     rfl
    refine pure_ (i := 11) (N := some 34) (v := ?_) (a' := ?_) #[true, false, true, true, true, false, false, false, true, true, true, true, false, false] rfl rfl (any_of HT_.out (by kernel_rfl)) (fun _ _ _ h => h) (Or.inl ⟨by rfl, ?_⟩) ?_ ?_
    rotate_left
    ·intro w'
     go_simp
     with_reducible rfl
    rotate_left
    ·simp only [Act.put, List.setIfInBounds_toArray, List.set_cons_zero, List.set_cons_succ, i64_w, i32_w]
     rfl
    refine take_ (i := 1) (N := some 24) (v := ?_) (a' := ?_) #[true, true, true, true, true, false, false, false, true, true, true, true, false, false] rfl rfl (take_ofW HT_.out HW_.out (by kernel_rfl)) (fun _ _ _ h => h) (Or.inl ⟨by rfl, ?_⟩) hHeld ?_ ?_
    rotate_left
    ·intro w' s0
     go_simp
     with_reducible rfl
    rotate_left
    ·simp only [Act.put, List.setIfInBounds_toArray, List.set_cons_zero, List.set_cons_succ, i64_w, i32_w]
     rfl
    refine one_ (i := 5) (N := some 28) #[true, true, true, true, true, true, false, false, true, true, true, true, false, false] rfl rfl (one_of HT_.out (by kernel_rfl)) (by decide) (fun K hK => ?_)
    refine Kd.N_lit_step (Kd.slice 5 (Kd.int .u8)) _ 22 ?hg (N' := 28) ?hd (xs := ([l0_0, y130] : List (List Int))) (inner := [.slice A0_0 l0_0.length c0_0, .slice A1 y130.length c1]) (ok := (fun k_ => ((P0_0_ k_ ∨ P1_ k_) ∨ w.heap.size ≤ k_) ∧ k_ ≠ gb127 ∧ k_ ≠ gb128)) (okp := (fun k_ => ((P0_0_ k_ ∨ P1_ k_) ∨ w.heap.size ≤ k_) ∧ k_ ≠ gb127 ∧ k_ ≠ gb128)) ?hr ?hp (fun _ hk => hk) ((show ∀ k_, w15.heap.size ≤ k_ → (fun k_ => ((P0_0_ k_ ∨ P1_ k_) ∨ w.heap.size ≤ k_) ∧ k_ ≠ gb127 ∧ k_ ≠ gb128) k_ from fun k_ hk => ⟨(.inr (Nat.le_trans (below_size (bS HB.out)) hk)), Kd.freshB (g := gb127) (o := .cells #[.slice A0_0 l0_0.length c0_0] 27 (0, 0)) (kA BK127.out) k_ hk, Kd.freshB (g := gb128) (o := .cells #[.slice none 0 0] 27 (0, 0)) (kA BK128.out) k_ hk⟩) _ (Nat.le_refl _)) (Below.refl _ _) (Nat.le_refl _) (by simp) ?_; (case hd => rfl); (case hg => rfl); (case hr => first | (go_simp; done) | (go_simp; rfl)); (case hp => exact (Reps.one (show Kd.FK (Kd.slice 5 (Kd.int .u8)) _ _ l0_0 [.slice A0_0 l0_0.length c0_0] from (Kd.FK_slice_mk (Kd.V_reads' (Kd.V_mono (ok' := (fun k_ => ((P0_0_ k_ ∨ P1_ k_) ∨ w.heap.size ≤ k_) ∧ k_ ≠ gb127 ∧ k_ ≠ gb128)) (HO0_0.out) (fun k_ hk => by first | exact ⟨hk.1.1, ⟨hk.1.2, hk.2⟩⟩ | (simp only [ne_eq] at hk ⊢; simp [hk])))).2.1 (Kd.V_F (Kd.V_mono (ok' := (fun k_ => ((P0_0_ k_ ∨ P1_ k_) ∨ w.heap.size ≤ k_) ∧ k_ ≠ gb127 ∧ k_ ≠ gb128)) (HO0_0.out) (fun k_ hk => by first | exact ⟨hk.1.1, ⟨hk.1.2, hk.2⟩⟩ | (simp only [ne_eq] at hk ⊢; simp [hk])))))) (Reps.one (show Kd.FK (Kd.slice 5 (Kd.int .u8)) _ _ y130 [.slice A1 y130.length c1] from (Kd.FK_slice_mk (Kd.V_reads' (Kd.V_mono (ok' := (fun k_ => ((P0_0_ k_ ∨ P1_ k_) ∨ w.heap.size ≤ k_) ∧ k_ ≠ gb127 ∧ k_ ≠ gb128)) (HO134.out) (fun k_ hk => by first | exact ⟨hk.1.1, ⟨hk.1.2, hk.2⟩⟩ | (simp only [ne_eq] at hk ⊢; simp [hk])))).2.1 (Kd.V_F (Kd.V_mono (ok' := (fun k_ => ((P0_0_ k_ ∨ P1_ k_) ∨ w.heap.size ≤ k_) ∧ k_ ≠ gb127 ∧ k_ ≠ gb128)) (HO134.out) (fun k_ hk => by first | exact ⟨hk.1.1, ⟨hk.1.2, hk.2⟩⟩ | (simp only [ne_eq] at hk ⊢; simp [hk])))))) (Reps.none _ _))))
    intro v136 w17 ho18 hb hg_ hnew_
    clear hg_ hnew_
    (first | rw [← Ny135.out] at ho18 | (simp only [Int.reduceToNat] at ho18; rw [← Ny135.out] at ho18))
    have n0_ := aM (Kd.V_elder' (by (with_reducible repeat (first | apply Kd.V_alloc | apply Kd.V_drewN | apply Kd.V_drew)); exact HO0_0.out) (Kd.N_base ho18) hb)
    have n1_ := aM (Kd.V_elder' (by (with_reducible repeat (first | apply Kd.V_alloc | apply Kd.V_drewN | apply Kd.V_drew)); exact HO1.out) (Kd.N_base ho18) hb)
    have n2_ := aM (Kd.V_elder' (by (with_reducible repeat (first | apply Kd.V_alloc | apply Kd.V_drewN | apply Kd.V_drew)); exact HO134.out) (Kd.N_base ho18) hb)
    have n3_ := aM (Kd.N_lower ho18 (below_size (bS HB.out)))
    have n4_ := aM (kB BK127.out hb)
    have n5_ := aM (kB BK128.out hb)
    have n6_ := aM (below_step (bS HB.out) hb)
    clear HO0_0
    clear HO1
    clear HO134
    clear BK127
    clear BK128
    clear HB
    have HO0_0 := n0_
    have HO1 := n1_
    have HO134 := n2_
    have HO137 := n3_
    have BK127 := n4_
    have BK128 := n5_
    have HB := n6_
    clear n0_ n1_ n2_ n3_ n4_ n5_ n6_
    clear hb ho18
    obtain ⟨Ao19, co19, eo19⟩ := Kd.N_slice HO137.out
    (first | subst eo19 | (injection eo19 with f1_ f2_ f3_; have f4_ := f1_.symm; have f5_ := f3_.symm; clear f1_ f2_ f3_; subst f4_; subst f5_))
    refine hK.out _ _ ((blk_cell BK127.out 0).trans rfl) (fun hHeld => ?_)
    clear hK K
    refine norm_ (a' := ?_) ?_ ?_
    rotate_left
    ·show Act.put _ (some 28) _ = _
     simp only [Act.put, List.setIfInBounds_toArray, List.set_cons_zero, List.set_cons_succ, i64_w, i32_w]
     rfl
    refine one_ (i := 6) (N := some 29) #[true, true, true, true, true, true, true, false, true, true, true, true, false, false] rfl rfl (one_of HT_.out (by kernel_rfl)) (by decide) (fun K hK => ?_)
    refine goes_ Try.func92 (by kernel_rfl) rfl #[.slice Ao19 y135.length co19] (by rfl) rfl rfl (by (try simp only [List.map_toArray, List.map_cons, List.map_nil]); first | done | rfl | (simp only [List.length_drop, List.length_take]; rfl)) ?_
    with_reducible refine (slices_Concat_byte_byte.calls _ _ y135 t138 _ ?side1 ?side2 A8.out).mono ?_
    (case side1 => repeat (first | exact (Kd.N_reads' HO137.out).2.2 | (with_reducible refine Kd.C_alloc ?_ _) | (with_reducible refine Kd.C_drewN ?_ _) | (with_reducible refine Kd.C_drew ?_)))
    (case side2 => exact (Kd.N_reads' HO137.out).2.1)
    rintro e w20 ⟨v139, rfl, ho0, hb⟩
    refine ⟨_, rfl, ?_⟩
    have n0_ := aM (Kd.V_elder' (by (with_reducible repeat (first | apply Kd.V_alloc | apply Kd.V_drewN | apply Kd.V_drew)); exact HO0_0.out) (Kd.R_base ho0) hb)
    have n1_ := aM (Kd.V_elder' (by (with_reducible repeat (first | apply Kd.V_alloc | apply Kd.V_drewN | apply Kd.V_drew)); exact HO1.out) (Kd.R_base ho0) hb)
    have n2_ := aM (Kd.V_elder' (by (with_reducible repeat (first | apply Kd.V_alloc | apply Kd.V_drewN | apply Kd.V_drew)); exact HO134.out) (Kd.R_base ho0) hb)
    have n3_ := aM (Kd.N_elder' (by (with_reducible repeat (first | apply Kd.N_alloc | apply Kd.N_drewN | apply Kd.N_drew)); exact HO137.out) (Kd.R_base ho0) hb)
    have n4_ := aM (Kd.R_lower (Kd.R_newM (M := fun k_ => (w.heap.size ≤ k_)) ho0 (below_size (bS HB.out)) (fun k_ h_ => h_)) (below_size (bS HB.out)))
    have n5_ := aM (kB BK127.out hb)
    have n6_ := aM (kB BK128.out hb)
    have n7_ := aM (below_step (bS HB.out) hb)
    clear HO0_0
    clear HO1
    clear HO134
    clear HO137
    clear BK127
    clear BK128
    clear HB
    have HO0_0 := n0_
    have HO1 := n1_
    have HO134 := n2_
    have HO137 := n3_
    have HO140 := n4_
    have BK127 := n5_
    have BK128 := n6_
    have HB := n7_
    clear n0_ n1_ n2_ n3_ n4_ n5_ n6_ n7_
    (try clear hb)
    (try clear hb2)
    (try clear hk)
    (try clear hi)
    (try clear ho0)
    obtain ⟨Ao21, co21, eo21⟩ := Kd.R_slice HO140.out
    (first | subst eo21 | (injection eo21 with f1_ f2_ f3_; have f4_ := f1_.symm; have f5_ := f3_.symm; clear f1_ f2_ f3_; subst f4_; subst f5_))
    refine hK.out _ _ ((blk_cell BK127.out 0).trans rfl) (fun hHeld => ?_)
    clear hK K
    refine norm_ (a' := ?_) ?_ ?_
    rotate_left
    ·show Act.put _ (some 29) _ = _
     simp only [Act.put, List.setIfInBounds_toArray, List.set_cons_zero, List.set_cons_succ, i64_w, i32_w]
     rfl
    refine pure_ (i := 7) (N := some 30) (v := ?_) (a' := ?_) #[true, true, true, true, true, true, true, true, true, true, true, true, false, false] rfl rfl (any_of HT_.out (by kernel_rfl)) (fun _ _ _ h => h) (Or.inl ⟨by rfl, ?_⟩) ?_ ?_
    rotate_left
    ·intro w'
     go_simp
     with_reducible rfl
    rotate_left
    ·simp only [Act.put, List.setIfInBounds_toArray, List.set_cons_zero, List.set_cons_succ, i64_w, i32_w]
     rfl
    refine one_ (i := 12) (N := none) #[true, true, true, true, true, true, true, true, true, true, true, true, true, false] rfl rfl (one_of HT_.out (by kernel_rfl)) (by decide) (fun K hK => ?_)
    have hs22 : w20.cell? ⟨gb128, 0, none⟩ = some (.slice none 0 0) := (blk_cell BK128.out 0).trans rfl
    have hfs22 := blk_frozen BK128.out 0
    have hns22_0 := NB127_128.out
    have hms22_0 := NB128_127.out
    refine skip_ (w1 := ?_) (by rfl) rfl ?_ ?_
    rotate_left
    ·go_simp
     rfl
    refine hK.out _ _ (((cell_far (p := ⟨gb128, _, none⟩) NB127_128.out _).trans (hHeld))) (fun hHeld => ?_)
    clear hK K
    refine pure_ (i := 13) (N := some 5) (v := ?_) (a' := ?_) #[true, true, true, true, true, true, true, true, true, true, true, true, true, true] rfl rfl (any_of HT_.out (by kernel_rfl)) (fun _ _ _ h => h) (Or.inl ⟨by rfl, ?_⟩) ?_ ?_
    rotate_left
    ·intro w'
     go_simp
     with_reducible rfl
    rotate_left
    ·simp only [Act.put, List.setIfInBounds_toArray, List.set_cons_zero, List.set_cons_succ, i64_w, i32_w]
     rfl
    refine done_ (done_of HT_.out (by kernel_rfl)) ?_
    try go_wp2
    refine bodyPost_ret (results_ct rfl _ _ gb128 27 #[.slice Ao21 t138.length co21] (0, 0) _ rfl (kP1 BK128.out) Try.underlying27 rfl (by kernel_rfl)) rfl ?_
    exact ⟨_, by first | rfl | (simp [errW_none, errW_some] <;> rfl) | (simp only [← hji5]; first | rfl | (simp [errW_none, errW_some] <;> rfl)) | (simp [*, errW_none, errW_some] <;> rfl), by (with_reducible repeat (first | apply Kd.R_alloc | apply Kd.R_drewN | apply Kd.R_drew)); exact Kd.R_mono (Kd.R_far (p := ⟨gb128, 0, none⟩) (Kd.R_types HO140.out BK128.out (by decide)) (fun _ hk => hk.2) (.slice Ao21 t138.length co21)) (fun _ hk => hk.1.1), bS HB.out⟩
   ·rw [if_neg c7] at H
    exact absurd H (by simp)
  ·rw [if_neg c6] at H
   exact absurd H (by simp)
 ·replace c4 := Bool.eq_false_iff.mpr c4
  subst c4
  have H1 : ((slices_Clone_byte_byte.f l0_0).bind fun t141 => (some (t141, (l1.length : Int)))) = some (r1, r2) := by rw [if_neg (show ¬ (false = true) by decide)] at H; exact H
  clear H
  have H := H1
  clear H1
  replace H := Option.bind_eq_some_iff.mp H
  obtain ⟨t141, A230, H⟩ := H
  replace H : (some (t141, (l1.length : Int))) = some (r1, r2) := H
  have A23 := aM A230
  clear A230
  simp only [Option.some.injEq, Prod.mk.injEq] at H
  obtain ⟨rfl, rfl⟩ := H
  go_enter Try.func65, Try.ntmps65
  go_wp2_with (first | ((with_reducible refine gate_dst (N := 2) rfl ?_); refine box_event ?hg (N := 2) ?hd (cs := #[.slice A0_0 l0_0.length c0_0]) (t := 27) ?hr ?_; (case hd => rfl); (case hg => rfl); (case hr => first | (go_simp; done) | (go_simp; rfl)); intro gb127 hg w24 hbox hb; have _ := aM (Kd.V_below (Kd.V_elderB (by (with_reducible repeat (first | apply Kd.V_alloc | apply Kd.V_drewN | apply Kd.V_drew)); exact HO0_0.out) gb127 (Nat.le_of_eq hg.symm)) hb); have _ := aM (Kd.V_below (Kd.V_elderB (by (with_reducible repeat (first | apply Kd.V_alloc | apply Kd.V_drewN | apply Kd.V_drew)); exact HO1.out) gb127 (Nat.le_of_eq hg.symm)) hb); have _ := aM (below_step (bS HB.out) hb); have _ := aM (hbox); have _ := aM (leG hg (bS HB.out)); have _ := aM (leG hg (bS HB.out)); clear HO0_0 HO1 HB; rename_i HO0_0 HO1 HB BK127 GW127 GE127; clear hb hbox hg) | ((with_reducible refine gate_dst (N := 4) rfl ?_); refine box_event ?hg (N := 4) ?hd (cs := #[.slice none 0 0]) (t := 27) ?hr ?_; (case hd => rfl); (case hg => rfl); (case hr => first | (go_simp; done) | (go_simp; rfl)); intro gb128 hg w25 hbox hb; have _ := aM (Kd.V_below (Kd.V_elderB (by (with_reducible repeat (first | apply Kd.V_alloc | apply Kd.V_drewN | apply Kd.V_drew)); exact HO0_0.out) gb128 (Nat.le_of_eq hg.symm)) hb); have _ := aM (Kd.V_below (Kd.V_elderB (by (with_reducible repeat (first | apply Kd.V_alloc | apply Kd.V_drewN | apply Kd.V_drew)); exact HO1.out) gb128 (Nat.le_of_eq hg.symm)) hb); have _ := aM (kB BK127.out hb); have _ := aM (below_step (bS HB.out) hb); have _ := aM (hbox); have _ := aM (leG hg (bS HB.out)); have _ := aM (leG hg (bS HB.out)); have _ := aM (neL hg (kA BK127.out)); have _ := aM (neG hg (kA BK127.out)); clear HO0_0 HO1 BK127 HB; rename_i HO0_0 HO1 BK127 HB BK128 GW128 GE128 NB127_128 NB128_127; clear hb hbox hg; have hnb26 := NB127_128.out; have hnc26 := NB128_127.out; obtain ⟨hcz27_0, hfz27_0⟩ := bk1 BK127.out) | ((with_reducible refine gate_callee (f := 20) rfl ?_); refine gL (some 8) rfl rfl Try.func20 (by kernel_rfl) rfl #[.agg #[.slice A0_0 l0_0.length c0_0]] rfl ?_; (with_reducible refine (impl_RingOk.calls _ _ l0_0 false _ ?side1 ?side2 A3.out).mono ?_); (case side1 => repeat (first | exact (Kd.V_reads' HO0_0.out).2.2 | (with_reducible refine Kd.C_alloc ?_ _) | (with_reducible refine Kd.C_drewN ?_ _) | (with_reducible refine Kd.C_drew ?_))); (case side2 => exact (Kd.V_reads' HO0_0.out).2.1); rintro e w28 ⟨rfl, hb⟩; refine ⟨_, rfl, ?_⟩; have _ := aM (Kd.V_below (by (with_reducible repeat (first | apply Kd.V_alloc | apply Kd.V_drewN | apply Kd.V_drew)); exact HO0_0.out) hb); have _ := aM (Kd.V_below (by (with_reducible repeat (first | apply Kd.V_alloc | apply Kd.V_drewN | apply Kd.V_drew)); exact HO1.out) hb); have _ := aM (kB BK127.out hb); have _ := aM (kB BK128.out hb); have _ := aM (below_step (bS HB.out) hb); clear HO0_0 HO1 BK127 BK128 HB; rename_i HO0_0 HO1 BK127 BK128 HB; (try clear hb); obtain ⟨hcz29_0, hfz29_0⟩ := bk1 BK127.out) | ((with_reducible refine gate_callee (f := 83) rfl ?_); refine gL (some 12) rfl rfl Try.func83 (by kernel_rfl) rfl #[.slice A0_0 l0_0.length c0_0] rfl ?_; (with_reducible refine (slices_Clone_byte_byte.calls _ _ l0_0 t141 _ ?side1 ?side2 A23.out).mono ?_); (case side1 => repeat (first | exact (Kd.V_reads' HO0_0.out).2.2 | (with_reducible refine Kd.C_alloc ?_ _) | (with_reducible refine Kd.C_drewN ?_ _) | (with_reducible refine Kd.C_drew ?_))); (case side2 => exact (Kd.V_reads' HO0_0.out).2.1); rintro e w30 ⟨v142, rfl, ho0, hb⟩; refine ⟨_, rfl, ?_⟩; have _ := aM (Kd.V_elder' (by (with_reducible repeat (first | apply Kd.V_alloc | apply Kd.V_drewN | apply Kd.V_drew)); exact HO0_0.out) (Kd.R_base ho0) hb); have _ := aM (Kd.V_elder' (by (with_reducible repeat (first | apply Kd.V_alloc | apply Kd.V_drewN | apply Kd.V_drew)); exact HO1.out) (Kd.R_base ho0) hb); have _ := aM (Kd.R_lower (Kd.R_newM (M := fun k_ => (w.heap.size ≤ k_)) ho0 (below_size (bS HB.out)) (fun k_ h_ => h_)) (below_size (bS HB.out))); have _ := aM (kB BK127.out hb); have _ := aM (kB BK128.out hb); have _ := aM (below_step (bS HB.out) hb); clear HO0_0 HO1 BK127 BK128 HB; rename_i HO0_0 HO1 HO143 BK127 BK128 HB; (try clear hb); (try clear ho0); obtain ⟨Ao31, co31, eo31⟩ := Kd.R_slice HO143.out; subst eo31; obtain ⟨hcz32_0, hfz32_0⟩ := bk1 BK128.out))
  refine bodyPost_ret (results_ct rfl _ _ gb128 27 #[.slice Ao31 t141.length co31] (0, 0) _ rfl (kP1 BK128.out) Try.underlying27 rfl (by kernel_rfl)) rfl ?_
  exact ⟨_, by first | rfl | (simp [errW_none, errW_some] <;> rfl) | (simp [*, errW_none, errW_some] <;> rfl), by (with_reducible repeat (first | apply Kd.R_alloc | apply Kd.R_drewN | apply Kd.R_drew)); exact Kd.R_mono (Kd.R_far (p := ⟨gb128, 0, none⟩) (Kd.R_types HO143.out BK128.out (by decide)) (fun _ hk => hk.2) (.slice Ao31 t141.length co31)) (fun _ hk => hk.1.1), bS HB.out⟩

/-! ### spec_RingOk: function 18 -/
def spec_RingOk.f (l0_0 : List Int) : Option (Bool) := some (decide ((l0_0.length : Int) ≤ 300))
set_option maxHeartbeats 8000000 in
set_option maxRecDepth 100000 in
theorem spec_RingOk.calls (A0_0 : Option Addr) (c0_0 : Nat) (l0_0 : List Int) (r : Bool) (w : World) (hr0_0 : Kd.C (Kd.int .u8) w A0_0 l0_0.length l0_0) (hc0_0 : l0_0.length ≤ c0_0) (h : spec_RingOk.f l0_0 = some r) :
  Calls Try.prog 18 #[.agg #[.slice A0_0 l0_0.length c0_0]] w fun e w' => e = .returned (.bool r) ∧ Below w.heap.size w w' := by
 have hu27 := Try.underlying27
 have HR0_0 := aM hr0_0
 have HC0_0 := aM hc0_0
 clear hr0_0 hc0_0
 have HB := aM (Below.refl w.heap.size w)
 have H : (some (decide ((l0_0.length : Int) ≤ 300))) = some r := h
 clear h
 obtain rfl := Option.some.inj H
 go_enter Try.func18, Try.ntmps18
 go_wp2_with (first | ((with_reducible refine gate_dst (N := 1) rfl ?_); refine box_event ?hg (N := 1) ?hd (cs := #[.slice A0_0 l0_0.length c0_0]) (t := 27) ?hr ?_; (case hd => rfl); (case hg => rfl); (case hr => first | (go_simp; done) | (go_simp; rfl)); intro gb144 hg w2 hbox hb; have _ := aM (below_step (bS HB.out) hb); have _ := aM (hbox); have _ := aM (leG hg (bS HB.out)); have _ := aM (leG hg (bS HB.out)); clear HB; rename_i HB BK144 GW144 GE144; clear hb hbox hg; obtain ⟨hcz3_0, hfz3_0⟩ := bk1 BK144.out))
 go_ret
 exact ⟨by first | rfl | (simp [errW_none, errW_some] <;> rfl) | (simp [*, errW_none, errW_some] <;> rfl), bS HB.out⟩

/-! ### spec_RingPut: function 71 -/
def spec_RingPut.f (l0_0 : List Int) (l1 : List Int) : Option (List Int × Int) := (some (([] : List Int) : List Int)).bind fun y147 => (if y147.length + l0_0.length < 140737488355328 then ((some (y147 ++ l0_0 : List Int)).bind fun y150 => ((spec_RingOk.f l0_0).bind fun t154 => (if t154 = true then (if (wrap64 (300 - (l0_0.length : Int))) > (l1.length : Int) then (if 0 ≤ (l1.length : Int) then (if (l1.length : Int) ≤ (l1.length : Int) then (if y150.length + (l1.take ((l1.length : Int) : Int).toNat).length < 140737488355328 then (some ((y150 ++ (l1.take ((l1.length : Int) : Int).toNat)), wrap64 ((l1.length : Int) - (l1.length : Int)))) else (none)) else (none)) else (none)) else (if 0 ≤ (wrap64 (300 - (l0_0.length : Int))) then (if (wrap64 (300 - (l0_0.length : Int))) ≤ (l1.length : Int) then (if y150.length + (l1.take ((wrap64 (300 - (l0_0.length : Int))) : Int).toNat).length < 140737488355328 then (some ((y150 ++ (l1.take ((wrap64 (300 - (l0_0.length : Int))) : Int).toNat)), wrap64 ((l1.length : Int) - (wrap64 (300 - (l0_0.length : Int)))))) else (none)) else (none)) else (none))) else (some (y150, (l1.length : Int)))))) else (none))
def spec_RingPut.T7 : Bool × List (List Nat × List Nat) := (true, [([], []), ([0], [0]), ([], []), ([], []), ([2, 3], [2, 3]), ([1, 4], [1, 4]), ([0, 1, 2, 3, 4, 5], []), ([6, 5, 5, 0, 1, 2, 3, 4, 5], [5, 6])])
def spec_RingPut.B7 : List Nat := [0, 1, 0, 0, 12, 31, 63, 127]
theorem spec_RingPut.tab7 : rtab .any (opsOf Try.f71 7) = spec_RingPut.T7 := by kernel_rfl
theorem spec_RingPut.bits7 : waitsOk spec_RingPut.T7.2 spec_RingPut.B7 = true := by kernel_rfl
set_option maxHeartbeats 8000000 in
set_option maxRecDepth 100000 in
theorem spec_RingPut.calls (A0_0 : Option Addr) (c0_0 : Nat) (l0_0 : List Int) (A1 : Option Addr) (c1 : Nat) (l1 : List Int) (r1 : List Int) (r2 : Int) (w : World) (hr0_0 : Kd.C (Kd.int .u8) w A0_0 l0_0.length l0_0) (hc0_0 : l0_0.length ≤ c0_0) (hr1 : Kd.C (Kd.int .u8) w A1 l1.length l1) (hc1 : l1.length ≤ c1) (h : spec_RingPut.f l0_0 l1 = some (r1, r2)) :
  Calls Try.prog 71 #[.agg #[.slice A0_0 l0_0.length c0_0], .slice A1 l1.length c1] w fun e w' => ∃ v0_ : Value, e = .returned (.tuple #[.agg #[v0_], .int .i64 r2]) ∧ Kd.R (Kd.int .u8) 5 w' w.heap.size (fun _ => True) v0_ r1 ∧ Below w.heap.size w w' := by
 have hu27 := Try.underlying27
 have HR0_0 := aM hr0_0
 have HC0_0 := aM hc0_0
 clear hr0_0 hc0_0
 have HR1 := aM hr1
 have HC1 := aM hc1
 clear hr1 hc1
 have HB := aM (Below.refl w.heap.size w)
 have H : ((some (([] : List Int) : List Int)).bind fun y147 => (if y147.length + l0_0.length < 140737488355328 then ((some (y147 ++ l0_0 : List Int)).bind fun y150 => ((spec_RingOk.f l0_0).bind fun t154 => (if t154 = true then (if (wrap64 (300 - (l0_0.length : Int))) > (l1.length : Int) then (if 0 ≤ (l1.length : Int) then (if (l1.length : Int) ≤ (l1.length : Int) then (if y150.length + (l1.take ((l1.length : Int) : Int).toNat).length < 140737488355328 then (some ((y150 ++ (l1.take ((l1.length : Int) : Int).toNat)), wrap64 ((l1.length : Int) - (l1.length : Int)))) else (none)) else (none)) else (none)) else (if 0 ≤ (wrap64 (300 - (l0_0.length : Int))) then (if (wrap64 (300 - (l0_0.length : Int))) ≤ (l1.length : Int) then (if y150.length + (l1.take ((wrap64 (300 - (l0_0.length : Int))) : Int).toNat).length < 140737488355328 then (some ((y150 ++ (l1.take ((wrap64 (300 - (l0_0.length : Int))) : Int).toNat)), wrap64 ((l1.length : Int) - (wrap64 (300 - (l0_0.length : Int)))))) else (none)) else (none)) else (none))) else (some (y150, (l1.length : Int)))))) else (none))) = some (r1, r2) := h
 clear h
 obtain ⟨y147, hy147⟩ : ∃ y_ : List Int, y_ = (([] : List Int)) := ⟨_, rfl⟩
 replace H : (if y147.length + l0_0.length < 140737488355328 then ((some (y147 ++ l0_0 : List Int)).bind fun y150 => ((spec_RingOk.f l0_0).bind fun t154 => (if t154 = true then (if (wrap64 (300 - (l0_0.length : Int))) > (l1.length : Int) then (if 0 ≤ (l1.length : Int) then (if (l1.length : Int) ≤ (l1.length : Int) then (if y150.length + (l1.take ((l1.length : Int) : Int).toNat).length < 140737488355328 then (some ((y150 ++ (l1.take ((l1.length : Int) : Int).toNat)), wrap64 ((l1.length : Int) - (l1.length : Int)))) else (none)) else (none)) else (none)) else (if 0 ≤ (wrap64 (300 - (l0_0.length : Int))) then (if (wrap64 (300 - (l0_0.length : Int))) ≤ (l1.length : Int) then (if y150.length + (l1.take ((wrap64 (300 - (l0_0.length : Int))) : Int).toNat).length < 140737488355328 then (some ((y150 ++ (l1.take ((wrap64 (300 - (l0_0.length : Int))) : Int).toNat)), wrap64 ((l1.length : Int) - (wrap64 (300 - (l0_0.length : Int)))))) else (none)) else (none)) else (none))) else (some (y150, (l1.length : Int)))))) else (none)) = some (r1, r2) := by first | (rw [hy147]; with_reducible exact H) | (have H2_ := (Option.bind_some _ _).symm.trans H; rw [hy147]; with_reducible exact H2_) | (have H2_ := (Option.bind_some _ _).symm.trans H; with_reducible exact H2_) | with_reducible exact H | (rw [hy147]; exact H) | exact H
 have Ny147 := aM hy147
 clear hy147
 by_cases c3 : y147.length + l0_0.length < 140737488355328
 ·rw [if_pos c3] at H
  have LMc3 := aM c3
  clear c3
  obtain ⟨y150, hy150⟩ : ∃ y_ : List Int, y_ = (y147 ++ l0_0) := ⟨_, rfl⟩
  replace H : ((spec_RingOk.f l0_0).bind fun t154 => (if t154 = true then (if (wrap64 (300 - (l0_0.length : Int))) > (l1.length : Int) then (if 0 ≤ (l1.length : Int) then (if (l1.length : Int) ≤ (l1.length : Int) then (if y150.length + (l1.take ((l1.length : Int) : Int).toNat).length < 140737488355328 then (some ((y150 ++ (l1.take ((l1.length : Int) : Int).toNat)), wrap64 ((l1.length : Int) - (l1.length : Int)))) else (none)) else (none)) else (none)) else (if 0 ≤ (wrap64 (300 - (l0_0.length : Int))) then (if (wrap64 (300 - (l0_0.length : Int))) ≤ (l1.length : Int) then (if y150.length + (l1.take ((wrap64 (300 - (l0_0.length : Int))) : Int).toNat).length < 140737488355328 then (some ((y150 ++ (l1.take ((wrap64 (300 - (l0_0.length : Int))) : Int).toNat)), wrap64 ((l1.length : Int) - (wrap64 (300 - (l0_0.length : Int)))))) else (none)) else (none)) else (none))) else (some (y150, (l1.length : Int))))) = some (r1, r2) := by first | (rw [hy150]; with_reducible exact H) | (have H2_ := (Option.bind_some _ _).symm.trans H; rw [hy150]; with_reducible exact H2_) | (have H2_ := (Option.bind_some _ _).symm.trans H; with_reducible exact H2_) | with_reducible exact H | (rw [hy150]; exact H) | exact H
  have Ny150 := aM hy150
  clear hy150
  replace H := Option.bind_eq_some_iff.mp H
  obtain ⟨t154, A40, H⟩ := H
  replace H : (if t154 = true then (if (wrap64 (300 - (l0_0.length : Int))) > (l1.length : Int) then (if 0 ≤ (l1.length : Int) then (if (l1.length : Int) ≤ (l1.length : Int) then (if y150.length + (l1.take ((l1.length : Int) : Int).toNat).length < 140737488355328 then (some ((y150 ++ (l1.take ((l1.length : Int) : Int).toNat)), wrap64 ((l1.length : Int) - (l1.length : Int)))) else (none)) else (none)) else (none)) else (if 0 ≤ (wrap64 (300 - (l0_0.length : Int))) then (if (wrap64 (300 - (l0_0.length : Int))) ≤ (l1.length : Int) then (if y150.length + (l1.take ((wrap64 (300 - (l0_0.length : Int))) : Int).toNat).length < 140737488355328 then (some ((y150 ++ (l1.take ((wrap64 (300 - (l0_0.length : Int))) : Int).toNat)), wrap64 ((l1.length : Int) - (wrap64 (300 - (l0_0.length : Int)))))) else (none)) else (none)) else (none))) else (some (y150, (l1.length : Int)))) = some (r1, r2) := H
  have A4 := aM A40
  clear A40
  by_cases c5 : t154 = true
  ·subst c5
   have H1 : (if (wrap64 (300 - (l0_0.length : Int))) > (l1.length : Int) then (if 0 ≤ (l1.length : Int) then (if (l1.length : Int) ≤ (l1.length : Int) then (if y150.length + (l1.take ((l1.length : Int) : Int).toNat).length < 140737488355328 then (some ((y150 ++ (l1.take ((l1.length : Int) : Int).toNat)), wrap64 ((l1.length : Int) - (l1.length : Int)))) else (none)) else (none)) else (none)) else (if 0 ≤ (wrap64 (300 - (l0_0.length : Int))) then (if (wrap64 (300 - (l0_0.length : Int))) ≤ (l1.length : Int) then (if y150.length + (l1.take ((wrap64 (300 - (l0_0.length : Int))) : Int).toNat).length < 140737488355328 then (some ((y150 ++ (l1.take ((wrap64 (300 - (l0_0.length : Int))) : Int).toNat)), wrap64 ((l1.length : Int) - (wrap64 (300 - (l0_0.length : Int)))))) else (none)) else (none)) else (none))) = some (r1, r2) := by rw [if_pos rfl] at H; exact H
   clear H
   have H := H1
   clear H1
   by_cases c6 : (wrap64 (300 - (l0_0.length : Int))) > (l1.length : Int)
   ·rw [if_pos c6] at H
    have c6b0 : decide ((l1.length : Int) < (wrap64 (300 - (l0_0.length : Int)))) = true := decide_eq_true c6
    clear c6
    by_cases c7 : 0 ≤ (l1.length : Int)
    ·rw [if_pos c7] at H
     have c7b0 := eq_true c7
     have c7b1 : decide (0 ≤ (l1.length : Int)) = true := decide_eq_true c7
     clear c7
     by_cases c8 : (l1.length : Int) ≤ (l1.length : Int)
     ·rw [if_pos c8] at H
      have c8b0 := eq_true c8
      have c8b1 : decide ((l1.length : Int) ≤ (l1.length : Int)) = true := decide_eq_true c8
      clear c8
      by_cases c9 : y150.length + (l1.take ((l1.length : Int) : Int).toNat).length < 140737488355328
      ·rw [if_pos c9] at H
       have LMc9 := aM c9
       clear c9
       obtain ⟨y156, hy156⟩ : ∃ y_ : List Int, y_ = (y150 ++ (l1.take ((l1.length : Int) : Int).toNat)) := ⟨_, rfl⟩
       replace H : (some (y156, wrap64 ((l1.length : Int) - (l1.length : Int)))) = some (r1, r2) := by first | (rw [hy156]; with_reducible exact H) | (have H2_ := (Option.bind_some _ _).symm.trans H; rw [hy156]; with_reducible exact H2_) | (have H2_ := (Option.bind_some _ _).symm.trans H; with_reducible exact H2_) | with_reducible exact H | (rw [hy156]; exact H) | exact H
       have Ny156 := aM hy156
       clear hy156
       simp only [Option.some.injEq, Prod.mk.injEq] at H
       obtain ⟨rfl, rfl⟩ := H
       go_enter Try.func71, Try.ntmps71
       try go_wp2_with (first | ((with_reducible refine gate_dst (N := 2) rfl ?_); refine box_event ?hg (N := 2) ?hd (cs := #[.slice A0_0 l0_0.length c0_0]) (t := 27) ?hr ?_; (case hd => rfl); (case hg => rfl); (case hr => first | (go_simp; done) | (go_simp; rfl)); intro gb145 hg w10 hbox hb; have _ := aM (below_step (bS HB.out) hb); have _ := aM (hbox); have _ := aM (leG hg (bS HB.out)); have _ := aM (leG hg (bS HB.out)); clear HB; rename_i HB BK145 GW145 GE145; clear hb hbox hg) | ((with_reducible refine gate_dst (N := 4) rfl ?_); refine box_event ?hg (N := 4) ?hd (cs := #[.slice none 0 0]) (t := 27) ?hr ?_; (case hd => rfl); (case hg => rfl); (case hr => first | (go_simp; done) | (go_simp; rfl)); intro gb146 hg w11 hbox hb; have _ := aM (kB BK145.out hb); have _ := aM (below_step (bS HB.out) hb); have _ := aM (hbox); have _ := aM (leG hg (bS HB.out)); have _ := aM (leG hg (bS HB.out)); have _ := aM (neL hg (kA BK145.out)); have _ := aM (neG hg (kA BK145.out)); clear BK145 HB; rename_i BK145 HB BK146 GW146 GE146 NB145_146 NB146_145; clear hb hbox hg) | ((with_reducible refine gate_dst (N := 8) rfl ?_); refine Kd.R_lit (Kd.int .u8) _ 5 ?hg (N := 8) ?hd (xs := ([] : List Int)) (inner := []) (ok := fun _ => True) (okp := fun _ => True) ?hr ?hp (fun _ hk => hk) trivial (Below.refl _ _) (Nat.le_refl _) (by simp) ?_; (case hd => rfl); (case hg => rfl); (case hr => first | (go_simp; done) | (go_simp; rfl)); (case hp => exact (Reps.none _ _)); intro v148 w12 ho13 hb hg_ hnew_; clear hg_ hnew_; (first | rw [← Ny147.out] at ho13 | (simp only [Int.reduceToNat] at ho13; rw [← Ny147.out] at ho13)); have _ := aM (Kd.R_lower ho13 (below_size (bS HB.out))); have _ := aM (kB BK145.out hb); have _ := aM (kB BK146.out hb); have _ := aM (below_step (bS HB.out) hb); clear BK145 BK146 HB; rename_i HO149 BK145 BK146 HB; clear hb ho13; have hnb14 := NB145_146.out; have hnc14 := NB146_145.out; obtain ⟨hcz15_0, hfz15_0⟩ := bk1 BK145.out) | ((with_reducible refine gate_builtin (b := .append) (xs := #[.tmp 8, .tmp 10]) rfl ?_); at_builtin; refine Kd.R_append_rows (Kd.int .u8) (w0 := w) w.heap.size rfl (.tmp 8) (.tmp 10) 22 5 (.int .u8 0) 1 rfl Try.underlying22 info5 rfl (by decide) (by omega) v148 y147 l0_0 _ _ _ (fun _ => True) (fun _ => False) rfl rfl ?aO ?aR (fun _ _ h => h) (fun _ h => h.elim) ?aF ?aB ?aS ?aL ?_; (case aR => repeat (first | exact (Kd.C_below HR0_0.out HB.out) | (with_reducible refine Kd.C_alloc ?_ _) | (with_reducible refine Kd.C_drewN ?_ _) | (with_reducible refine Kd.C_drew ?_))); (case aB => exact (bS HB.out)); (case aF => exact (fun _ _ => trivial)); (case aO => exact (rA HO149.out)); (case aS => exact (below_size (bS HB.out))); (case aL => have := LMc3.out; omega); intro v151 w16 ho hb hg hat; rw [← Ny150.out] at ho; have _ := aM (blk_grown (g := gb145) (o := .cells #[.slice A0_0 l0_0.length c0_0] 27 (0, 0)) (kA BK145.out) hg (Kd.R_ne HO149.out BK145.out (by decide))); have _ := aM (blk_grown (g := gb146) (o := .cells #[.slice none 0 0] 27 (0, 0)) (kA BK146.out) hg (Kd.R_ne HO149.out BK146.out (by decide))); have _ := aM (hb); have _ := aM (ho); clear BK145 BK146 HB HO149; rename_i BK145 BK146 HB HO152; clear ho hb hg hat; obtain ⟨Ao17, co17, eo17⟩ := Kd.R_slice HO152.out; subst eo17) | ((with_reducible refine gate_dst (N := 6) rfl ?_); refine box_event ?hg (N := 6) ?hd (cs := #[.slice none 0 0]) (t := 27) ?hr ?_; (case hd => rfl); (case hg => rfl); (case hr => first | (go_simp; done) | (go_simp; rfl)); intro gb153 hg w18 hbox hb; have _ := aM (rB HO152.out hb); have _ := aM (kB BK145.out hb); have _ := aM (kB BK146.out hb); have _ := aM (below_step (bS HB.out) hb); have _ := aM (hbox); have _ := aM (leG hg (bS HB.out)); have _ := aM (leG hg (bS HB.out)); have _ := aM (neL hg (kA BK145.out)); have _ := aM (neG hg (kA BK145.out)); have _ := aM (neL hg (kA BK146.out)); have _ := aM (neG hg (kA BK146.out)); clear HO152 BK145 BK146 HB; rename_i HO152 BK145 BK146 HB BK153 GW153 GE153 NB145_153 NB153_145 NB146_153 NB153_146; clear hb hbox hg; have hnb19 := NB153_145.out; have hnc19 := NB145_153.out; have hnb20 := NB153_146.out; have hnc20 := NB146_153.out; obtain ⟨hcz21_0, hfz21_0⟩ := bk1 BK153.out; obtain ⟨hcz22_0, hfz22_0⟩ := bk1 BK145.out) | ((with_reducible refine gate_callee (f := 18) rfl ?_); refine gL (some 14) rfl rfl Try.func18 (by kernel_rfl) rfl #[.agg #[.slice A0_0 l0_0.length c0_0]] rfl ?_; (with_reducible refine (spec_RingOk.calls _ _ l0_0 true _ ?side1 ?side2 A4.out).mono ?_); (case side1 => exact Kd.C_below HR0_0.out (bS HB.out)); (case side2 => exact HC0_0.out); rintro e w23 ⟨rfl, hb⟩; refine ⟨_, rfl, ?_⟩; have _ := aM (Kd.R_below (rF1 HO152.out BK153.out) hb); have _ := aM (blk_below (kF1 BK145.out NB145_153.out) hb); have _ := aM (blk_below (kF1 BK146.out NB146_153.out) hb); have _ := aM (blk_below (kP1 BK153.out) hb); have _ := aM (below_step (bS HB.out) hb); clear HO152 BK145 BK146 BK153 HB; rename_i HO152 BK145 BK146 BK153 HB; (try clear hb); obtain ⟨hcz24_0, hfz24_0⟩ := bk1 BK145.out))
       have n0_ := aM (Kd.R_drew HO152.out)
       have n1_ := aM (blk_drew BK145.out)
       have n2_ := aM (blk_drew BK146.out)
       have n3_ := aM (blk_drew BK153.out)
       have n4_ := aM (below_drew1 HB.out)
       clear HO152
       clear BK145
       clear BK146
       clear BK153
       clear HB
       have HO152 := n0_
       have BK145 := n1_
       have BK146 := n2_
       have BK153 := n3_
       have HB := n4_
       clear n0_ n1_ n2_ n3_ n4_
       obtain ⟨i026, hi026, _, hsz26, _⟩ := info_parts info5
       obtain ⟨hcut26, hA26, hC26⟩ := print_take_of (P := Try.prog) (Value.int .u8) 0 22 5 .i64 Try.underlying22 hi026 hsz26 A1 c1 l1 (l1.length : Int) (of_decide_eq_true (by first | (with_reducible assumption) | assumption)) (of_decide_eq_true (by first | (with_reducible assumption) | assumption)) HC1.out
       have HR155 := aM (Kd.C_of_reads (h1 := fun _ => rfl) (hA26 _ (Kd.reads_of_C HR1.out)))
       have HC155 := aM hC26
       clear hA26 hC26 hi026 hsz26
       refine start_ (n := 8) (S := fun w' => w'.cell? ⟨gb153, 0, none⟩ = some (.slice Ao17 y150.length co17)) (ds := [7]) #[false, false, false, false, false, false, false, false] (by kernel_rfl) rfl rfl ((blk_cell BK153.out 0).trans rfl) (fun hHeld => ?_); refine with_tabW spec_RingPut.tab7 spec_RingPut.bits7 (fun HT_ HW_ => ?_)
       generalize w23.drew = w25 at HO152 BK145 BK146 BK153 HB HR155 hHeld ⊢
       refine pure_ (i := 0) (N := some 29) (v := ?_) (a' := ?_) #[true, false, false, false, false, false, false, false] rfl rfl (any_of HT_.out (by kernel_rfl)) (fun _ _ _ h => h) (Or.inl ⟨by rfl, ?_⟩) ?_ ?_
       rotate_left
       ·intro w'
        go_simp
        with_reducible rfl
       rotate_left
       ·simp only [Act.put, List.setIfInBounds_toArray, List.set_cons_zero, List.set_cons_succ, i64_w, i32_w]
        rfl
       refine pure_ (i := 2) (N := some 31) (v := ?_) (a' := ?_) #[true, false, true, false, false, false, false, false] rfl rfl (any_of HT_.out (by kernel_rfl)) (fun _ _ _ h => h) (Or.inl ⟨by rfl, ?_⟩) ?_ ?_
       rotate_left
       ·intro w'
        go_simp
        with_reducible rfl
       rotate_left
       ·simp only [Act.put, List.setIfInBounds_toArray, List.set_cons_zero, List.set_cons_succ, i64_w, i32_w]
        rfl
       refine pure_ (i := 3) (N := some 32) (v := ?_) (a' := ?_) #[true, false, true, true, false, false, false, false] rfl rfl (any_of HT_.out (by kernel_rfl)) (fun _ _ _ h => h) (Or.inl ⟨by rfl, ?_⟩) ?_ ?_
       rotate_left
       ·intro w'
        go_simp
        with_reducible rfl
       rotate_left
       ·simp only [Act.put, List.setIfInBounds_toArray, List.set_cons_zero, List.set_cons_succ, i64_w, i32_w]
        rfl
       refine pure_ (i := 4) (N := some 33) (v := ?_) (a' := ?_) #[true, false, true, true, true, false, false, false] rfl rfl (any_of HT_.out (by kernel_rfl)) (fun _ _ _ h => h) (Or.inl ⟨by rfl, ?_⟩) ?_ ?_
       rotate_left
       ·intro w'
        go_simp
        with_reducible rfl
       rotate_left
       ·simp only [Act.put, List.setIfInBounds_toArray, List.set_cons_zero, List.set_cons_succ, i64_w, i32_w]
        rfl
       refine take_ (i := 1) (N := some 30) (v := ?_) (a' := ?_) #[true, true, true, true, true, false, false, false] rfl rfl (take_ofW HT_.out HW_.out (by kernel_rfl)) (fun _ _ _ h => h) (Or.inl ⟨by rfl, ?_⟩) hHeld ?_ ?_
       rotate_left
       ·intro w' s0
        go_simp
        with_reducible rfl
       rotate_left
       ·simp only [Act.put, List.setIfInBounds_toArray, List.set_cons_zero, List.set_cons_succ, i64_w, i32_w]
        rfl
       refine one_ (i := 5) (N := some 34) #[true, true, true, true, true, true, false, false] rfl rfl (one_of HT_.out (by kernel_rfl)) (by decide) (fun K hK => ?_)
       refine Kd.R_append_rows_step (Kd.int .u8) (w0 := w) w.heap.size (by rfl) (.tmp 30) (.tmp 33) 22 5 (.int .u8 0) 1 rfl Try.underlying22 info5 rfl (by decide) (by omega) (.slice Ao17 y150.length co17) y150 (l1.take ((l1.length : Int) : Int).toNat) _ _ _ (fun _ => True) (fun _ => False) rfl rfl ?aO ?aR (fun _ _ h => h) (fun _ h => h.elim) ?aF ?aB ?aS ?aL ?_
       (case aR => first | (exact cLen (Kd.C_below HR155.out HB.out) (by first | rfl | (simp; done) | exact (by rw [List.length_take]; have h_ : ((l1.length : Int) : Int) ≤ (l1.length : Int) := of_decide_eq_true (by first | (with_reducible assumption) | assumption); omega) | (simp; omega))) | (rw [← show (l1.take ((l1.length : Int) : Int).toNat).length = (l1.length : Int).toNat from (by rw [List.length_take]; have h_ : ((l1.length : Int) : Int) ≤ (l1.length : Int) := of_decide_eq_true (by first | (with_reducible assumption) | assumption); omega)]; repeat (first | exact (Kd.C_below HR155.out HB.out) | (with_reducible refine Kd.C_alloc ?_ _) | (with_reducible refine Kd.C_drewN ?_ _) | (with_reducible refine Kd.C_drew ?_))) | (repeat (first | exact (Kd.C_below HR155.out HB.out) | (with_reducible refine Kd.C_alloc ?_ _) | (with_reducible refine Kd.C_drewN ?_ _) | (with_reducible refine Kd.C_drew ?_))))
       (case aB => exact (bS HB.out))
       (case aF => exact (fun _ _ => trivial))
       (case aO => exact (rA HO152.out))
       (case aS => exact (below_size (bS HB.out)))
       (case aL => have := LMc9.out; have hlx_ := (show (l1.take ((l1.length : Int) : Int).toNat).length = (l1.length : Int).toNat from (by rw [List.length_take]; have h_ : ((l1.length : Int) : Int) ≤ (l1.length : Int) := of_decide_eq_true (by first | (with_reducible assumption) | assumption); omega)); omega)
       intro v157 w27 ho hb hg hat
       rw [← Ny156.out] at ho
       have n0_ := aM (blk_grown (g := gb145) (o := .cells #[.slice A0_0 l0_0.length c0_0] 27 (0, 0)) (kA BK145.out) hg (Kd.R_ne HO152.out BK145.out (by decide)))
       have n1_ := aM (blk_grown (g := gb146) (o := .cells #[.slice none 0 0] 27 (0, 0)) (kA BK146.out) hg (Kd.R_ne HO152.out BK146.out (by decide)))
       have n2_ := aM (blk_grown (g := gb153) (o := .cells #[.slice Ao17 y150.length co17] 27 (0, 0)) (kA BK153.out) hg (Kd.R_ne HO152.out BK153.out (by decide)))
       have n3_ := aM (hb)
       have n4_ := aM (ho)
       clear BK145
       clear BK146
       clear BK153
       clear HB
       clear HO152
       have BK145 := n0_
       have BK146 := n1_
       have BK153 := n2_
       have HB := n3_
       have HO158 := n4_
       clear n0_ n1_ n2_ n3_ n4_
       clear ho hb hg hat
       obtain ⟨Ao28, co28, eo28⟩ := Kd.R_slice HO158.out
       (first | subst eo28 | (injection eo28 with f1_ f2_ f3_; have f4_ := f1_.symm; have f5_ := f3_.symm; clear f1_ f2_ f3_; subst f4_; subst f5_))
       refine hK.out _ _ ((blk_cell BK153.out 0).trans rfl) (fun hHeld => ?_)
       clear hK K
       refine norm_ (a' := ?_) ?_ ?_
       rotate_left
       ·show Act.put _ (some 34) _ = _
        simp only [Act.put, List.setIfInBounds_toArray, List.set_cons_zero, List.set_cons_succ, i64_w, i32_w]
        rfl
       refine pure_ (i := 6) (N := some 35) (v := ?_) (a' := ?_) #[true, true, true, true, true, true, true, false] rfl rfl (any_of HT_.out (by kernel_rfl)) (fun _ _ _ h => h) (Or.inl ⟨by rfl, ?_⟩) ?_ ?_
       rotate_left
       ·intro w'
        go_simp
        with_reducible rfl
       rotate_left
       ·simp only [Act.put, List.setIfInBounds_toArray, List.set_cons_zero, List.set_cons_succ, i64_w, i32_w]
        rfl
       refine last_ (i := 7) (N := none) #[true, true, true, true, true, true, true, true] rfl rfl (one_of HT_.out (by kernel_rfl)) (by decide) (fun K hK => ?_)
       have hs29 : w27.cell? ⟨gb153, 0, none⟩ = some (.slice Ao17 y150.length co17) := (blk_cell BK153.out 0).trans rfl
       have hfs29 := blk_frozen BK153.out 0
       have hns29_0 := NB145_153.out
       have hns29_1 := NB146_153.out
       have hms29_0 := NB153_145.out
       have hms29_1 := NB153_146.out
       refine skip_ (w1 := ?_) (by rfl) rfl ?_ ?_
       rotate_left
       ·go_simp
        rfl
       refine hK.out _ _ ?_
       clear hK K
       refine done_ (done_of HT_.out (by kernel_rfl)) ?_
       obtain ⟨hcz30_0, hfz30_0⟩ := bk1 BK153.out
       obtain ⟨hcz31_0, hfz31_0⟩ := bk1 BK146.out
       try go_wp2
       refine bodyPost_ret (results_ct rfl _ _ gb146 27 #[.slice Ao28 y156.length co28] (0, 0) _ rfl (kX BK146.out) Try.underlying27 rfl (by kernel_rfl)) rfl ?_
       exact ⟨.slice Ao28 y156.length co28, by first | rfl | (rw [show wrap64 ((l1.length : Int) - (l1.length : Int)) = 0 from by rw [Int.sub_self]; unfold wrap64; omega]; rfl) | (simp [errW_none, errW_some] <;> rfl) | (simp [*, errW_none, errW_some] <;> rfl), by (with_reducible repeat (first | apply Kd.R_alloc | apply Kd.R_drewN | apply Kd.R_drew)); exact Kd.R_mono (Kd.R_far (p := ⟨gb146, 0, none⟩) (Kd.R_far (p := ⟨gb153, 0, none⟩) (Kd.R_types (Kd.R_types HO158.out BK153.out (by decide)) BK146.out (by decide)) (fun _ hk => hk.1.2) (.slice Ao28 y156.length co28)) (fun _ hk => hk.2) (.slice Ao28 y156.length co28)) (fun _ hk => trivial), bS HB.out⟩
      ·rw [if_neg c9] at H
       exact absurd H (by simp)
     ·rw [if_neg c8] at H
      exact absurd H (by simp)
    ·rw [if_neg c7] at H
     exact absurd H (by simp)
   ·rw [if_neg c6] at H
    have c6b0 : decide ((l1.length : Int) < (wrap64 (300 - (l0_0.length : Int)))) = false := decide_eq_false c6
    clear c6
    obtain ⟨ji32, hji32⟩ : ∃ j_ : Int, (wrap64 (300 - (l0_0.length : Int))) = j_ := ⟨_, rfl⟩
    replace H : (if 0 ≤ (ji32) then (if (ji32) ≤ (l1.length : Int) then (if y150.length + (l1.take ((ji32) : Int).toNat).length < 140737488355328 then (some ((y150 ++ (l1.take ((ji32) : Int).toNat)), wrap64 ((l1.length : Int) - (ji32)))) else (none)) else (none)) else (none)) = some (r1, r2) := by first | (rw [hji32] at H; exact H) | (simp only [hji32] at H ⊢; exact H)
    (try rw [hji32] at c6b0)
    (try rw [hji32] at A4)
    have hji32w : (IntKind.i64.wrap (300 - (l0_0.length : Int))) = ji32 := (i64_w _).trans hji32
    by_cases c33 : 0 ≤ (ji32)
    ·rw [if_pos c33] at H
     have c33b0 := eq_true c33
     have c33b1 : decide (0 ≤ (ji32)) = true := decide_eq_true c33
     clear c33
     by_cases c34 : (ji32) ≤ (l1.length : Int)
     ·rw [if_pos c34] at H
      have c34b0 := eq_true c34
      have c34b1 : decide ((ji32) ≤ (l1.length : Int)) = true := decide_eq_true c34
      clear c34
      by_cases c35 : y150.length + (l1.take ((ji32) : Int).toNat).length < 140737488355328
      ·rw [if_pos c35] at H
       have LMc35 := aM c35
       clear c35
       obtain ⟨y160, hy160⟩ : ∃ y_ : List Int, y_ = (y150 ++ (l1.take ((ji32) : Int).toNat)) := ⟨_, rfl⟩
       replace H : (some (y160, wrap64 ((l1.length : Int) - (ji32)))) = some (r1, r2) := by first | (rw [hy160]; with_reducible exact H) | (have H2_ := (Option.bind_some _ _).symm.trans H; rw [hy160]; with_reducible exact H2_) | (have H2_ := (Option.bind_some _ _).symm.trans H; with_reducible exact H2_) | with_reducible exact H | (rw [hy160]; exact H) | exact H
       have Ny160 := aM hy160
       clear hy160
       simp only [Option.some.injEq, Prod.mk.injEq] at H
       obtain ⟨rfl, rfl⟩ := H
       go_enter Try.func71, Try.ntmps71
       try go_wp2_with (first | ((with_reducible refine gate_dst (N := 2) rfl ?_); refine box_event ?hg (N := 2) ?hd (cs := #[.slice A0_0 l0_0.length c0_0]) (t := 27) ?hr ?_; (case hd => rfl); (case hg => rfl); (case hr => first | (go_simp; done) | (go_simp; rfl)); intro gb145 hg w36 hbox hb; have _ := aM (below_step (bS HB.out) hb); have _ := aM (hbox); have _ := aM (leG hg (bS HB.out)); have _ := aM (leG hg (bS HB.out)); clear HB; rename_i HB BK145 GW145 GE145; clear hb hbox hg) | ((with_reducible refine gate_dst (N := 4) rfl ?_); refine box_event ?hg (N := 4) ?hd (cs := #[.slice none 0 0]) (t := 27) ?hr ?_; (case hd => rfl); (case hg => rfl); (case hr => first | (go_simp; done) | (go_simp; rfl)); intro gb146 hg w37 hbox hb; have _ := aM (kB BK145.out hb); have _ := aM (below_step (bS HB.out) hb); have _ := aM (hbox); have _ := aM (leG hg (bS HB.out)); have _ := aM (leG hg (bS HB.out)); have _ := aM (neL hg (kA BK145.out)); have _ := aM (neG hg (kA BK145.out)); clear BK145 HB; rename_i BK145 HB BK146 GW146 GE146 NB145_146 NB146_145; clear hb hbox hg) | ((with_reducible refine gate_dst (N := 8) rfl ?_); refine Kd.R_lit (Kd.int .u8) _ 5 ?hg (N := 8) ?hd (xs := ([] : List Int)) (inner := []) (ok := fun _ => True) (okp := fun _ => True) ?hr ?hp (fun _ hk => hk) trivial (Below.refl _ _) (Nat.le_refl _) (by simp) ?_; (case hd => rfl); (case hg => rfl); (case hr => first | (go_simp; done) | (go_simp; rfl)); (case hp => exact (Reps.none _ _)); intro v148 w38 ho39 hb hg_ hnew_; clear hg_ hnew_; (first | rw [← Ny147.out] at ho39 | (simp only [Int.reduceToNat] at ho39; rw [← Ny147.out] at ho39)); have _ := aM (Kd.R_lower ho39 (below_size (bS HB.out))); have _ := aM (kB BK145.out hb); have _ := aM (kB BK146.out hb); have _ := aM (below_step (bS HB.out) hb); clear BK145 BK146 HB; rename_i HO149 BK145 BK146 HB; clear hb ho39; have hnb40 := NB145_146.out; have hnc40 := NB146_145.out; obtain ⟨hcz41_0, hfz41_0⟩ := bk1 BK145.out) | ((with_reducible refine gate_builtin (b := .append) (xs := #[.tmp 8, .tmp 10]) rfl ?_); at_builtin; refine Kd.R_append_rows (Kd.int .u8) (w0 := w) w.heap.size rfl (.tmp 8) (.tmp 10) 22 5 (.int .u8 0) 1 rfl Try.underlying22 info5 rfl (by decide) (by omega) v148 y147 l0_0 _ _ _ (fun _ => True) (fun _ => False) rfl rfl ?aO ?aR (fun _ _ h => h) (fun _ h => h.elim) ?aF ?aB ?aS ?aL ?_; (case aR => repeat (first | exact (Kd.C_below HR0_0.out HB.out) | (with_reducible refine Kd.C_alloc ?_ _) | (with_reducible refine Kd.C_drewN ?_ _) | (with_reducible refine Kd.C_drew ?_))); (case aB => exact (bS HB.out)); (case aF => exact (fun _ _ => trivial)); (case aO => exact (rA HO149.out)); (case aS => exact (below_size (bS HB.out))); (case aL => have := LMc3.out; omega); intro v151 w42 ho hb hg hat; rw [← Ny150.out] at ho; have _ := aM (blk_grown (g := gb145) (o := .cells #[.slice A0_0 l0_0.length c0_0] 27 (0, 0)) (kA BK145.out) hg (Kd.R_ne HO149.out BK145.out (by decide))); have _ := aM (blk_grown (g := gb146) (o := .cells #[.slice none 0 0] 27 (0, 0)) (kA BK146.out) hg (Kd.R_ne HO149.out BK146.out (by decide))); have _ := aM (hb); have _ := aM (ho); clear BK145 BK146 HB HO149; rename_i BK145 BK146 HB HO152; clear ho hb hg hat; obtain ⟨Ao43, co43, eo43⟩ := Kd.R_slice HO152.out; subst eo43) | ((with_reducible refine gate_dst (N := 6) rfl ?_); refine box_event ?hg (N := 6) ?hd (cs := #[.slice none 0 0]) (t := 27) ?hr ?_; (case hd => rfl); (case hg => rfl); (case hr => first | (go_simp; done) | (go_simp; rfl)); intro gb153 hg w44 hbox hb; have _ := aM (rB HO152.out hb); have _ := aM (kB BK145.out hb); have _ := aM (kB BK146.out hb); have _ := aM (below_step (bS HB.out) hb); have _ := aM (hbox); have _ := aM (leG hg (bS HB.out)); have _ := aM (leG hg (bS HB.out)); have _ := aM (neL hg (kA BK145.out)); have _ := aM (neG hg (kA BK145.out)); have _ := aM (neL hg (kA BK146.out)); have _ := aM (neG hg (kA BK146.out)); clear HO152 BK145 BK146 HB; rename_i HO152 BK145 BK146 HB BK153 GW153 GE153 NB145_153 NB153_145 NB146_153 NB153_146; clear hb hbox hg; have hnb45 := NB153_145.out; have hnc45 := NB145_153.out; have hnb46 := NB153_146.out; have hnc46 := NB146_153.out; obtain ⟨hcz47_0, hfz47_0⟩ := bk1 BK153.out; obtain ⟨hcz48_0, hfz48_0⟩ := bk1 BK145.out) | ((with_reducible refine gate_callee (f := 18) rfl ?_); refine gL (some 14) rfl rfl Try.func18 (by kernel_rfl) rfl #[.agg #[.slice A0_0 l0_0.length c0_0]] rfl ?_; (with_reducible refine (spec_RingOk.calls _ _ l0_0 true _ ?side1 ?side2 A4.out).mono ?_); (case side1 => exact Kd.C_below HR0_0.out (bS HB.out)); (case side2 => exact HC0_0.out); rintro e w49 ⟨rfl, hb⟩; refine ⟨_, rfl, ?_⟩; have _ := aM (Kd.R_below (rF1 HO152.out BK153.out) hb); have _ := aM (blk_below (kF1 BK145.out NB145_153.out) hb); have _ := aM (blk_below (kF1 BK146.out NB146_153.out) hb); have _ := aM (blk_below (kP1 BK153.out) hb); have _ := aM (below_step (bS HB.out) hb); clear HO152 BK145 BK146 BK153 HB; rename_i HO152 BK145 BK146 BK153 HB; (try clear hb); obtain ⟨hcz50_0, hfz50_0⟩ := bk1 BK145.out))
       have n0_ := aM (Kd.R_drew HO152.out)
       have n1_ := aM (blk_drew BK145.out)
       have n2_ := aM (blk_drew BK146.out)
       have n3_ := aM (blk_drew BK153.out)
       have n4_ := aM (below_drew1 HB.out)
       clear HO152
       clear BK145
       clear BK146
       clear BK153
       clear HB
       have HO152 := n0_
       have BK145 := n1_
       have BK146 := n2_
       have BK153 := n3_
       have HB := n4_
       clear n0_ n1_ n2_ n3_ n4_
       obtain ⟨i052, hi052, _, hsz52, _⟩ := info_parts info5
       obtain ⟨hcut52, hA52, hC52⟩ := print_take_of (P := Try.prog) (Value.int .u8) 0 22 5 .i64 Try.underlying22 hi052 hsz52 A1 c1 l1 (ji32) (of_decide_eq_true (by first | (with_reducible assumption) | assumption)) (of_decide_eq_true (by first | (with_reducible assumption) | assumption)) HC1.out
       have HR159 := aM (Kd.C_of_reads (h1 := fun _ => rfl) (hA52 _ (Kd.reads_of_C HR1.out)))
       have HC159 := aM hC52
       clear hA52 hC52 hi052 hsz52
       refine start_ (n := 8) (S := fun w' => w'.cell? ⟨gb153, 0, none⟩ = some (.slice Ao43 y150.length co43)) (ds := [7]) #[false, false, false, false, false, false, false, false] (by kernel_rfl) rfl rfl ((blk_cell BK153.out 0).trans rfl) (fun hHeld => ?_); refine with_tabW spec_RingPut.tab7 spec_RingPut.bits7 (fun HT_ HW_ => ?_)
       generalize w49.drew = w51 at HO152 BK145 BK146 BK153 HB HR159 hHeld ⊢
       refine pure_ (i := 0) (N := some 29) (v := ?_) (a' := ?_) #[true, false, false, false, false, false, false, false] rfl rfl (any_of HT_.out (by kernel_rfl)) (fun _ _ _ h => h) (Or.inl ⟨by rfl, ?_⟩) ?_ ?_
       rotate_left
       ·intro w'
        go_simp
        with_reducible rfl
       rotate_left
       ·simp only [Act.put, List.setIfInBounds_toArray, List.set_cons_zero, List.set_cons_succ, i64_w, i32_w]
        rfl
       refine pure_ (i := 2) (N := some 31) (v := ?_) (a' := ?_) #[true, false, true, false, false, false, false, false] rfl rfl (any_of HT_.out (by kernel_rfl)) (fun _ _ _ h => h) (Or.inl ⟨by rfl, ?_⟩) ?_ ?_
       rotate_left
       ·intro w'
        go_simp
        with_reducible rfl
       rotate_left
       ·simp only [Act.put, List.setIfInBounds_toArray, List.set_cons_zero, List.set_cons_succ, i64_w, i32_w]
        rfl
       refine pure_ (i := 3) (N := some 32) (v := ?_) (a' := ?_) #[true, false, true, true, false, false, false, false] rfl rfl (any_of HT_.out (by kernel_rfl)) (fun _ _ _ h => h) (Or.inl ⟨by rfl, ?_⟩) ?_ ?_
       rotate_left
       ·intro w'
        go_simp
        with_reducible rfl
       rotate_left
       ·simp only [Act.put, List.setIfInBounds_toArray, List.set_cons_zero, List.set_cons_succ, i64_w, i32_w]
        rfl
       refine pure_ (i := 4) (N := some 33) (v := ?_) (a' := ?_) #[true, false, true, true, true, false, false, false] rfl rfl (any_of HT_.out (by kernel_rfl)) (fun _ _ _ h => h) (Or.inl ⟨by rfl, ?_⟩) ?_ ?_
       rotate_left
       ·intro w'
        go_simp
        with_reducible rfl
       rotate_left
       ·simp only [Act.put, List.setIfInBounds_toArray, List.set_cons_zero, List.set_cons_succ, i64_w, i32_w]
        rfl
       refine take_ (i := 1) (N := some 30) (v := ?_) (a' := ?_) #[true, true, true, true, true, false, false, false] rfl rfl (take_ofW HT_.out HW_.out (by kernel_rfl)) (fun _ _ _ h => h) (Or.inl ⟨by rfl, ?_⟩) hHeld ?_ ?_
       rotate_left
       ·intro w' s0
        go_simp
        with_reducible rfl
       rotate_left
       ·simp only [Act.put, List.setIfInBounds_toArray, List.set_cons_zero, List.set_cons_succ, i64_w, i32_w]
        rfl
       refine one_ (i := 5) (N := some 34) #[true, true, true, true, true, true, false, false] rfl rfl (one_of HT_.out (by kernel_rfl)) (by decide) (fun K hK => ?_)
       refine Kd.R_append_rows_step (Kd.int .u8) (w0 := w) w.heap.size (by rfl) (.tmp 30) (.tmp 33) 22 5 (.int .u8 0) 1 rfl Try.underlying22 info5 rfl (by decide) (by omega) (.slice Ao43 y150.length co43) y150 (l1.take ((ji32) : Int).toNat) _ _ _ (fun _ => True) (fun _ => False) rfl rfl ?aO ?aR (fun _ _ h => h) (fun _ h => h.elim) ?aF ?aB ?aS ?aL ?_
       (case aR => first | (exact cLen (Kd.C_below HR159.out HB.out) (by first | rfl | (simp; done) | exact (by rw [List.length_take]; have h_ : ((ji32) : Int) ≤ (l1.length : Int) := of_decide_eq_true (by first | (with_reducible assumption) | assumption); omega) | (simp; omega))) | (rw [← show (l1.take ((ji32) : Int).toNat).length = (ji32).toNat from (by rw [List.length_take]; have h_ : ((ji32) : Int) ≤ (l1.length : Int) := of_decide_eq_true (by first | (with_reducible assumption) | assumption); omega)]; repeat (first | exact (Kd.C_below HR159.out HB.out) | (with_reducible refine Kd.C_alloc ?_ _) | (with_reducible refine Kd.C_drewN ?_ _) | (with_reducible refine Kd.C_drew ?_))) | (repeat (first | exact (Kd.C_below HR159.out HB.out) | (with_reducible refine Kd.C_alloc ?_ _) | (with_reducible refine Kd.C_drewN ?_ _) | (with_reducible refine Kd.C_drew ?_))))
       (case aB => exact (bS HB.out))
       (case aF => exact (fun _ _ => trivial))
       (case aO => exact (rA HO152.out))
       (case aS => exact (below_size (bS HB.out)))
       (case aL => have := LMc35.out; have hlx_ := (show (l1.take ((ji32) : Int).toNat).length = (ji32).toNat from (by rw [List.length_take]; have h_ : ((ji32) : Int) ≤ (l1.length : Int) := of_decide_eq_true (by first | (with_reducible assumption) | assumption); omega)); omega)
       intro v161 w53 ho hb hg hat
       rw [← Ny160.out] at ho
       have n0_ := aM (blk_grown (g := gb145) (o := .cells #[.slice A0_0 l0_0.length c0_0] 27 (0, 0)) (kA BK145.out) hg (Kd.R_ne HO152.out BK145.out (by decide)))
       have n1_ := aM (blk_grown (g := gb146) (o := .cells #[.slice none 0 0] 27 (0, 0)) (kA BK146.out) hg (Kd.R_ne HO152.out BK146.out (by decide)))
       have n2_ := aM (blk_grown (g := gb153) (o := .cells #[.slice Ao43 y150.length co43] 27 (0, 0)) (kA BK153.out) hg (Kd.R_ne HO152.out BK153.out (by decide)))
       have n3_ := aM (hb)
       have n4_ := aM (ho)
       clear BK145
       clear BK146
       clear BK153
       clear HB
       clear HO152
       have BK145 := n0_
       have BK146 := n1_
       have BK153 := n2_
       have HB := n3_
       have HO162 := n4_
       clear n0_ n1_ n2_ n3_ n4_
       clear ho hb hg hat
       obtain ⟨Ao54, co54, eo54⟩ := Kd.R_slice HO162.out
       (first | subst eo54 | (injection eo54 with f1_ f2_ f3_; have f4_ := f1_.symm; have f5_ := f3_.symm; clear f1_ f2_ f3_; subst f4_; subst f5_))
       refine hK.out _ _ ((blk_cell BK153.out 0).trans rfl) (fun hHeld => ?_)
       clear hK K
       refine norm_ (a' := ?_) ?_ ?_
       rotate_left
       ·show Act.put _ (some 34) _ = _
        simp only [Act.put, List.setIfInBounds_toArray, List.set_cons_zero, List.set_cons_succ, i64_w, i32_w]
        rfl
       refine pure_ (i := 6) (N := some 35) (v := ?_) (a' := ?_) #[true, true, true, true, true, true, true, false] rfl rfl (any_of HT_.out (by kernel_rfl)) (fun _ _ _ h => h) (Or.inl ⟨by rfl, ?_⟩) ?_ ?_
       rotate_left
       ·intro w'
        go_simp
        with_reducible rfl
       rotate_left
       ·simp only [Act.put, List.setIfInBounds_toArray, List.set_cons_zero, List.set_cons_succ, i64_w, i32_w]
        rfl
       refine last_ (i := 7) (N := none) #[true, true, true, true, true, true, true, true] rfl rfl (one_of HT_.out (by kernel_rfl)) (by decide) (fun K hK => ?_)
       have hs55 : w53.cell? ⟨gb153, 0, none⟩ = some (.slice Ao43 y150.length co43) := (blk_cell BK153.out 0).trans rfl
       have hfs55 := blk_frozen BK153.out 0
       have hns55_0 := NB145_153.out
       have hns55_1 := NB146_153.out
       have hms55_0 := NB153_145.out
       have hms55_1 := NB153_146.out
       refine skip_ (w1 := ?_) (by rfl) rfl ?_ ?_
       rotate_left
       ·go_simp
        rfl
       refine hK.out _ _ ?_
       clear hK K
       refine done_ (done_of HT_.out (by kernel_rfl)) ?_
       obtain ⟨hcz56_0, hfz56_0⟩ := bk1 BK153.out
       obtain ⟨hcz57_0, hfz57_0⟩ := bk1 BK146.out
       try go_wp2
       refine bodyPost_ret (results_ct rfl _ _ gb146 27 #[.slice Ao54 y160.length co54] (0, 0) _ rfl (kX BK146.out) Try.underlying27 rfl (by kernel_rfl)) rfl ?_
       exact ⟨_, by first | rfl | (simp [errW_none, errW_some] <;> rfl) | (simp only [← hji32]; first | rfl | (simp [errW_none, errW_some] <;> rfl)) | (simp [*, errW_none, errW_some] <;> rfl), by (with_reducible repeat (first | apply Kd.R_alloc | apply Kd.R_drewN | apply Kd.R_drew)); exact Kd.R_mono (Kd.R_far (p := ⟨gb146, 0, none⟩) (Kd.R_far (p := ⟨gb153, 0, none⟩) (Kd.R_types (Kd.R_types HO162.out BK153.out (by decide)) BK146.out (by decide)) (fun _ hk => hk.1.2) (.slice Ao54 y160.length co54)) (fun _ hk => hk.2) (.slice Ao54 y160.length co54)) (fun _ hk => trivial), bS HB.out⟩
      ·rw [if_neg c35] at H
       exact absurd H (by simp)
     ·rw [if_neg c34] at H
      exact absurd H (by simp)
    ·rw [if_neg c33] at H
     exact absurd H (by simp)
  ·replace c5 := Bool.eq_false_iff.mpr c5
   subst c5
   have H1 : (some (y150, (l1.length : Int))) = some (r1, r2) := by rw [if_neg (show ¬ (false = true) by decide)] at H; exact H
   clear H
   have H := H1
   clear H1
   simp only [Option.some.injEq, Prod.mk.injEq] at H
   obtain ⟨rfl, rfl⟩ := H
   go_enter Try.func71, Try.ntmps71
   go_wp2_with (first | ((with_reducible refine gate_dst (N := 2) rfl ?_); refine box_event ?hg (N := 2) ?hd (cs := #[.slice A0_0 l0_0.length c0_0]) (t := 27) ?hr ?_; (case hd => rfl); (case hg => rfl); (case hr => first | (go_simp; done) | (go_simp; rfl)); intro gb145 hg w58 hbox hb; have _ := aM (below_step (bS HB.out) hb); have _ := aM (hbox); have _ := aM (leG hg (bS HB.out)); have _ := aM (leG hg (bS HB.out)); clear HB; rename_i HB BK145 GW145 GE145; clear hb hbox hg) | ((with_reducible refine gate_dst (N := 4) rfl ?_); refine box_event ?hg (N := 4) ?hd (cs := #[.slice none 0 0]) (t := 27) ?hr ?_; (case hd => rfl); (case hg => rfl); (case hr => first | (go_simp; done) | (go_simp; rfl)); intro gb146 hg w59 hbox hb; have _ := aM (kB BK145.out hb); have _ := aM (below_step (bS HB.out) hb); have _ := aM (hbox); have _ := aM (leG hg (bS HB.out)); have _ := aM (leG hg (bS HB.out)); have _ := aM (neL hg (kA BK145.out)); have _ := aM (neG hg (kA BK145.out)); clear BK145 HB; rename_i BK145 HB BK146 GW146 GE146 NB145_146 NB146_145; clear hb hbox hg) | ((with_reducible refine gate_dst (N := 8) rfl ?_); refine Kd.R_lit (Kd.int .u8) _ 5 ?hg (N := 8) ?hd (xs := ([] : List Int)) (inner := []) (ok := fun _ => True) (okp := fun _ => True) ?hr ?hp (fun _ hk => hk) trivial (Below.refl _ _) (Nat.le_refl _) (by simp) ?_; (case hd => rfl); (case hg => rfl); (case hr => first | (go_simp; done) | (go_simp; rfl)); (case hp => exact (Reps.none _ _)); intro v148 w60 ho61 hb hg_ hnew_; clear hg_ hnew_; (first | rw [← Ny147.out] at ho61 | (simp only [Int.reduceToNat] at ho61; rw [← Ny147.out] at ho61)); have _ := aM (Kd.R_lower ho61 (below_size (bS HB.out))); have _ := aM (kB BK145.out hb); have _ := aM (kB BK146.out hb); have _ := aM (below_step (bS HB.out) hb); clear BK145 BK146 HB; rename_i HO149 BK145 BK146 HB; clear hb ho61; have hnb62 := NB145_146.out; have hnc62 := NB146_145.out; obtain ⟨hcz63_0, hfz63_0⟩ := bk1 BK145.out) | ((with_reducible refine gate_builtin (b := .append) (xs := #[.tmp 8, .tmp 10]) rfl ?_); at_builtin; refine Kd.R_append_rows (Kd.int .u8) (w0 := w) w.heap.size rfl (.tmp 8) (.tmp 10) 22 5 (.int .u8 0) 1 rfl Try.underlying22 info5 rfl (by decide) (by omega) v148 y147 l0_0 _ _ _ (fun _ => True) (fun _ => False) rfl rfl ?aO ?aR (fun _ _ h => h) (fun _ h => h.elim) ?aF ?aB ?aS ?aL ?_; (case aR => repeat (first | exact (Kd.C_below HR0_0.out HB.out) | (with_reducible refine Kd.C_alloc ?_ _) | (with_reducible refine Kd.C_drewN ?_ _) | (with_reducible refine Kd.C_drew ?_))); (case aB => exact (bS HB.out)); (case aF => exact (fun _ _ => trivial)); (case aO => exact (rA HO149.out)); (case aS => exact (below_size (bS HB.out))); (case aL => have := LMc3.out; omega); intro v151 w64 ho hb hg hat; rw [← Ny150.out] at ho; have _ := aM (blk_grown (g := gb145) (o := .cells #[.slice A0_0 l0_0.length c0_0] 27 (0, 0)) (kA BK145.out) hg (Kd.R_ne HO149.out BK145.out (by decide))); have _ := aM (blk_grown (g := gb146) (o := .cells #[.slice none 0 0] 27 (0, 0)) (kA BK146.out) hg (Kd.R_ne HO149.out BK146.out (by decide))); have _ := aM (hb); have _ := aM (ho); clear BK145 BK146 HB HO149; rename_i BK145 BK146 HB HO152; clear ho hb hg hat; obtain ⟨Ao65, co65, eo65⟩ := Kd.R_slice HO152.out; subst eo65) | ((with_reducible refine gate_dst (N := 6) rfl ?_); refine box_event ?hg (N := 6) ?hd (cs := #[.slice none 0 0]) (t := 27) ?hr ?_; (case hd => rfl); (case hg => rfl); (case hr => first | (go_simp; done) | (go_simp; rfl)); intro gb153 hg w66 hbox hb; have _ := aM (rB HO152.out hb); have _ := aM (kB BK145.out hb); have _ := aM (kB BK146.out hb); have _ := aM (below_step (bS HB.out) hb); have _ := aM (hbox); have _ := aM (leG hg (bS HB.out)); have _ := aM (leG hg (bS HB.out)); have _ := aM (neL hg (kA BK145.out)); have _ := aM (neG hg (kA BK145.out)); have _ := aM (neL hg (kA BK146.out)); have _ := aM (neG hg (kA BK146.out)); clear HO152 BK145 BK146 HB; rename_i HO152 BK145 BK146 HB BK153 GW153 GE153 NB145_153 NB153_145 NB146_153 NB153_146; clear hb hbox hg; have hnb67 := NB153_145.out; have hnc67 := NB145_153.out; have hnb68 := NB153_146.out; have hnc68 := NB146_153.out; obtain ⟨hcz69_0, hfz69_0⟩ := bk1 BK153.out; obtain ⟨hcz70_0, hfz70_0⟩ := bk1 BK145.out) | ((with_reducible refine gate_callee (f := 18) rfl ?_); refine gL (some 14) rfl rfl Try.func18 (by kernel_rfl) rfl #[.agg #[.slice A0_0 l0_0.length c0_0]] rfl ?_; (with_reducible refine (spec_RingOk.calls _ _ l0_0 false _ ?side1 ?side2 A4.out).mono ?_); (case side1 => exact Kd.C_below HR0_0.out (bS HB.out)); (case side2 => exact HC0_0.out); rintro e w71 ⟨rfl, hb⟩; refine ⟨_, rfl, ?_⟩; have _ := aM (Kd.R_below (rF1 HO152.out BK153.out) hb); have _ := aM (blk_below (kF1 BK145.out NB145_153.out) hb); have _ := aM (blk_below (kF1 BK146.out NB146_153.out) hb); have _ := aM (blk_below (kP1 BK153.out) hb); have _ := aM (below_step (bS HB.out) hb); clear HO152 BK145 BK146 BK153 HB; rename_i HO152 BK145 BK146 BK153 HB; (try clear hb); obtain ⟨hcz72_0, hfz72_0⟩ := bk1 BK153.out; obtain ⟨hcz73_0, hfz73_0⟩ := bk1 BK146.out))
   refine bodyPost_ret (results_ct rfl _ _ gb146 27 #[.slice Ao65 y150.length co65] (0, 0) _ rfl (kP1 BK146.out) Try.underlying27 rfl (by kernel_rfl)) rfl ?_
   exact ⟨_, by first | rfl | (simp [errW_none, errW_some] <;> rfl) | (simp [*, errW_none, errW_some] <;> rfl), by (with_reducible repeat (first | apply Kd.R_alloc | apply Kd.R_drewN | apply Kd.R_drew)); exact Kd.R_mono (Kd.R_far (p := ⟨gb146, 0, none⟩) (Kd.R_types HO152.out BK146.out (by decide)) (fun _ hk => hk.2) (.slice Ao65 y150.length co65)) (fun _ hk => trivial), bS HB.out⟩
 ·rw [if_neg c3] at H
  exact absurd H (by simp)

end Go.Proofs.Ytnikdfcdddlfbaa.PFnExactRingPut
