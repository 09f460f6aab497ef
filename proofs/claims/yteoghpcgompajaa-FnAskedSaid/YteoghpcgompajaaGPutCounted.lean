/- What impl.putCounted does: the bytes, how many more there are, and those, in a row of their own. Condition: fewer than 2^45 elements in all. -/
import Derived.Test.YteoghpcgompajaaGConcat
import Derived.Test.YteoghpcgompajaaWRepsOne
namespace Go.Proofs.Yteoghpcgompajaa.G
open Go Go.RowKit Go.Proofs.YteoghpcgompajaaW.PrintWords Go.Proofs.YteoghpcgompajaaW.PrintLast Go.Proofs.YteoghpcgompajaaW.PrintMore
set_option linter.unusedVariables false
set_option linter.unusedSimpArgs false

theorem C_cells3 {w : World} {g t : Nat} {A0 A1 A2 : Option Addr} {c0 c1 c2 : Nat} {l0 l1 l2 : List Int}
    (hb : w.heap[g]? = some (.cells #[.slice A0 l0.length c0, .slice A1 l1.length c1, .slice A2 l2.length c2] t (0, 0)))
    (h0 : Kd.C (Kd.int .u8) w A0 l0.length l0) (h1 : Kd.C (Kd.int .u8) w A1 l1.length l1) (h2 : Kd.C (Kd.int .u8) w A2 l2.length l2) (k0 : l0.length ≤ c0) (k1 : l1.length ≤ c1) (k2 : l2.length ≤ c2) :
    (Kd.slice 5 (Kd.int .u8)).C w (some ⟨g, 0, none⟩) [l0, l1, l2].length [l0, l1, l2] := by
  refine ⟨rfl, by simp, fun _ => ⟨_, rfl, fun j p hp => ?_⟩⟩
  match j, hp with
  | 0, hp =>
    obtain rfl : l0 = p := by simpa using hp
    refine ⟨[.slice A0 l0.length c0], rfl, ⟨A0, c0, rfl, k0, h0⟩, fun i u hu => ?_⟩
    match i, hu with
    | 0, hu => obtain rfl : Value.slice A0 l0.length c0 = u := by simpa using hu
               exact (blk_cell hb 0).trans rfl
    | i + 1, hu => simp at hu
  | 1, hp =>
    obtain rfl : l1 = p := by simpa using hp
    refine ⟨[.slice A1 l1.length c1], rfl, ⟨A1, c1, rfl, k1, h1⟩, fun i u hu => ?_⟩
    match i, hu with
    | 0, hu => obtain rfl : Value.slice A1 l1.length c1 = u := by simpa using hu
               exact (blk_cell hb 1).trans rfl
    | i + 1, hu => simp at hu
  | 2, hp =>
    obtain rfl : l2 = p := by simpa using hp
    refine ⟨[.slice A2 l2.length c2], rfl, ⟨A2, c2, rfl, k2, h2⟩, fun i u hu => ?_⟩
    match i, hu with
    | 0, hu => obtain rfl : Value.slice A2 l2.length c2 = u := by simpa using hu
               exact (blk_cell hb 2).trans rfl
    | i + 1, hu => simp at hu
  | j + 3, hp => simp at hp

def impl_putCounted.f (l0 : List Int) (l1 : List Int) : Option (List Int) := if l0.length + l1.length < 35184372088832 then some (l0 ++ ((l1.length : Int) % 256 :: l1)) else none

set_option maxHeartbeats 4000000 in
set_option maxRecDepth 100000 in
theorem impl_putCounted.calls (A0 : Option Addr) (c0 : Nat) (l0 : List Int) (A1 : Option Addr) (c1 : Nat) (l1 : List Int) (r : List Int) (w : World) (hr0 : Kd.C (Kd.int .u8) w A0 l0.length l0) (hc0 : l0.length ≤ c0) (hr1 : Kd.C (Kd.int .u8) w A1 l1.length l1) (hc1 : l1.length ≤ c1) (h : impl_putCounted.f l0 l1 = some r) :
    Calls Try.prog 41 #[.slice A0 l0.length c0, .slice A1 l1.length c1] w fun e w' => ∃ v0_ : Value, e = .returned (v0_) ∧ Kd.R (Kd.int .u8) 5 w' w.heap.size (fun _ => True) v0_ r ∧ Below w.heap.size w w' := by
  have hlt : l0.length + l1.length < 35184372088832 := by
    unfold impl_putCounted.f at h
    by_cases c : l0.length + l1.length < 35184372088832
    · exact c
    · rw [if_neg c] at h; exact absurd h (by simp)
  obtain rfl : l0 ++ ((l1.length : Int) % 256 :: l1) = r := by
    unfold impl_putCounted.f at h
    rw [if_pos hlt] at h
    exact Option.some.inj h
  clear h
  have HR0 := Aside0.mk hr0
  have HC0 := Aside0.mk hc0
  have HR1 := Aside0.mk hr1
  have HC1 := Aside0.mk hc1
  have HL := Aside0.mk hlt
  clear hr0 hr1 hc0 hc1 hlt
  have HM := Aside0.mk (show [l0, [(l1.length : Int) % 256], l1].flatten.length ≤ 70368744177664 by simp; have := HL.out; omega)
  have HF := Aside0.mk (show [l0, [(l1.length : Int) % 256], l1].flatten = l0 ++ ((l1.length : Int) % 256 :: l1) by simp)
  have HB := Aside0.mk (Below.refl w.heap.size w)
  go_enter Try.func41, Try.ntmps41
  go_wp2_with (first | ((with_reducible refine gate_dst (N := 9) rfl ?_); refine Kd.R_lit (Kd.int .u8) w.heap.size 5 ?hg (N := 9) ?hd (xs := ([(l1.length : Int) % 256] : List Int)) (inner := [.int .u8 ((l1.length : Int) % 256)]) (ok := fun _ => True) (okp := fun _ => True) ?hr ?hp (fun _ hk => hk) trivial HB.out (Nat.le_refl _) (by simp) ?_; (case hd => rfl); (case hg => rfl); (case hr => first | (go_simp; done) | (go_simp; rfl)); (case hp => exact Reps.one (show Kd.M (Kd.int .u8) _ _ _ ((l1.length : Int) % 256) [.int .u8 ((l1.length : Int) % 256)] from rfl) (Reps.none _ _)); intro v1 w1 ho hb hg_ hnew_; clear hg_ hnew_; have HO := Aside0.mk ho; have HB1 := Aside0.mk hb; clear ho hb HB; obtain ⟨Ao, co, eo⟩ := Kd.R_slice HO.out; subst eo) | ((with_reducible refine gate_dst (N := 11) rfl ?_); refine Kd.event_run rfl (v := .slice (some ⟨w1.heap.size, 0, none⟩) 3 3) (w1 := w1.alloc (.cells #[.slice A0 l0.length c0, .slice Ao [(l1.length : Int) % 256].length co, .slice A1 l1.length c1] 33)) (by first | (go_simp; done) | (go_simp; rfl)) ?_; have hbk := blk_new w1 (.cells #[.slice A0 l0.length c0, .slice Ao [(l1.length : Int) % 256].length co, .slice A1 l1.length c1] 33); have HCC := Aside0.mk (C_cells3 hbk (Kd.C_alloc (Kd.C_below HR0.out HB1.out) _) (Kd.C_alloc (Kd.R_reads' HO.out).2.2 _) (Kd.C_alloc (Kd.C_below HR1.out HB1.out) _) HC0.out (Kd.R_reads' HO.out).2.1 HC1.out); have HB2 := Aside0.mk (below_alloc HB1.out (.cells #[.slice A0 l0.length c0, .slice Ao [(l1.length : Int) % 256].length co, .slice A1 l1.length c1] 33)); clear hbk; generalize w1.alloc (.cells #[.slice A0 l0.length c0, .slice Ao [(l1.length : Int) % 256].length co, .slice A1 l1.length c1] 33) = w2 at HCC HB2 ⊢) | ((with_reducible refine gate_callee (f := 67) rfl ?_); refine goesL_ (some 12) rfl rfl Try.func67 (by kernel_rfl) rfl #[.slice (some ⟨w1.heap.size, 0, none⟩) 3 3] rfl (by (try simp only [List.map_toArray, List.map_cons, List.map_nil]); first | done | rfl) ?_; refine (concat_any (some ⟨w1.heap.size, 0, none⟩) 3 [l0, [(l1.length : Int) % 256], l1] w2 HCC.out HM.out).mono ?_; rintro e w3 ⟨v3, rfl, ho, hb⟩; refine ⟨_, rfl, ?_⟩; rw [HF.out] at ho; have HO3 := Aside0.mk (Kd.R_lower ho (below_size HB2.out)); have HB3 := Aside0.mk (below_step HB2.out hb); clear ho hb))
  go_ret
  exact ⟨_, rfl, HO3.out, HB3.out⟩
end Go.Proofs.Yteoghpcgompajaa.G
