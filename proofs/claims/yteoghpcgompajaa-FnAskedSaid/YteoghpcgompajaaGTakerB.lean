/- What the methods of impl's taker do that take bits. No condition. -/
import Derived.Test.YteoghpcgompajaaGTakerN
namespace Go.Proofs.Yteoghpcgompajaa.G
open Go Go.RowKit Go.Proofs.Yteoghpcgompajaa.K Go.Proofs.YteoghpcgompajaaW.PrintWords Go.Proofs.YteoghpcgompajaaW.PrintLast Go.Proofs.YteoghpcgompajaaW.PrintMore
set_option linter.unusedVariables false
set_option linter.unusedSimpArgs false

def impl_taker_bits.f (k : Nat) (s0_0 : List Int) (s0_1 : Int) (s0_2 : Bool) (a1 : Int) : Option (List Bool × Int × Bool) :=
  (impl_taker_counted.f s0_0 s0_1 s0_2).bind fun t => (impl_UnpackBits.f k t.1 a1).bind fun u => some (u.1, t.2.1, t.2.2 || !u.2)
theorem impl_taker_bits.mono : ∀ a0 a1 a2 a3 k, LeO (impl_taker_bits.f k a0 a1 a2 a3) (impl_taker_bits.f (k + 1) a0 a1 a2 a3) :=
  fun a0 a1 a2 a3 k => LeO.bind (LeO.refl _) fun t => LeO.bind (impl_UnpackBits.mono _ _ _) fun _ => LeO.refl _

set_option maxHeartbeats 4000000 in
set_option maxRecDepth 100000 in
theorem impl_taker_bits.calls (k : Nat) (g : Nat) (s0_0 : List Int) (s0_1 : Int) (s0_2 : Bool) (a1 : Int) (r1 : List Bool) (r2 : Int) (r3 : Bool) (w0 w : World) (hI : IsS66 w0 w g s0_0 s0_1 s0_2) (hB : Below w0.heap.size w0 w) (h : impl_taker_bits.f k s0_0 s0_1 s0_2 a1 = some (r1, r2, r3)) :
    Calls Try.prog 71 #[.pointer (some ⟨g, 0, none⟩), .int .i64 a1] w fun e w' => ∃ v0_ : Value, e = .returned (v0_) ∧ Kd.R Kd.bool 4 w' w.heap.size (fun _ => True) v0_ r1 ∧ IsS66 w0 w' g s0_0 r2 r3 ∧ Below w0.heap.size w0 w' ∧ KeepBut w w' g none := by
  obtain ⟨⟨u, p, b⟩, h1, h⟩ := Option.bind_eq_some_iff.mp h
  obtain ⟨⟨t, ok⟩, h2, h⟩ := Option.bind_eq_some_iff.mp h
  simp only [Option.some.injEq, Prod.mk.injEq] at h
  obtain ⟨rfl, rfl, h3⟩ := h
  have H1 := Aside0.mk h1
  have H2 := Aside0.mk h2
  have HI := Aside0.mk hI
  have HB := Aside0.mk hB
  have HL := Aside0.mk hI.ge
  clear h1 h2 hI hB
  have hd : b = true ∨ b = false := by cases b <;> simp
  rcases hd with rfl | rfl
  all_goals
    simp only [Bool.true_or, Bool.false_or] at h3
    subst h3
    go_enter Try.func71, Try.ntmps71
    go_wp2_with (first | (go_at_call 82; refine (impl_taker_counted.calls g s0_0 s0_1 s0_2 u p _ w0 _ HI.out HB.out H1.out).mono ?_; rintro e w1 ⟨A, c, rfl, hlc, hC, hi, hb, hk⟩; have HLC := Aside0.mk hlc; have HC := Aside0.mk hC; have HI1 := Aside0.mk hi; have HB1 := Aside0.mk hb; have HK1 := Aside0.mk hk; clear hlc hC hi hb hk) | (go_at_call 81; refine (impl_UnpackBits.calls k A c u a1 t ok _ (Kd.C_below HC.out HB1.out) HLC.out H2.out).mono ?_; rintro e w2 ⟨v0, rfl, ho, hb⟩; have HO := Aside0.mk (Kd.R_lower ho (keep_size HK1.out)); have HI2 := Aside0.mk (HI1.out.below hb); have HB2 := Aside0.mk (below_step HB1.out hb); have HK2 := Aside0.mk (HK1.out.trans (KeepBut.of_below hb g none) (.inl rfl)); obtain ⟨A2, c2, hb2, -, -⟩ := HI2.out; obtain ⟨hz0, fz0, hz1, fz1, hz2, fz2⟩ := bk3 hb2; have HBK := Aside0.mk hb2; clear ho hb hb2))
    go_ret
    exact ⟨v0, rfl, Kd.R_set HO.out HBK.out (by decide) _ _, by repeat (first | (with_reducible first | exact HI2.out | apply IsS66.drewN | apply IsS66.set_1 | apply IsS66.set_2) | exact HI2.out), by repeat (first | (with_reducible first | exact HB2.out | apply pw_below_drewN | refine below_set ?_ HL.out) | exact HB2.out), by repeat (first | (with_reducible first | exact HK2.out | apply KeepBut.set_ | apply keep_drewN) | exact HK2.out)⟩
end Go.Proofs.Yteoghpcgompajaa.G
