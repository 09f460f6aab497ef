/- What the methods of impl's taker do that take what is counted. No condition. -/
import Derived.Test.YteoghpcgompajaaGTaker
namespace Go.Proofs.Yteoghpcgompajaa.G
open Go Go.RowKit Go.Proofs.Yteoghpcgompajaa.K Go.Proofs.YteoghpcgompajaaW.PrintWords Go.Proofs.YteoghpcgompajaaW.PrintLast Go.Proofs.YteoghpcgompajaaW.PrintMore
set_option linter.unusedVariables false
set_option linter.unusedSimpArgs false

def impl_taker_counted.f (s0_0 : List Int) (s0_1 : Int) (s0_2 : Bool) : Option (List Int × Int × Bool) :=
  (impl_taker_byte.f s0_0 s0_1 s0_2).bind fun t => (impl_taker_rest.f s0_0 t.2.1).bind fun u => some (u, (s0_0.length : Int), t.2.2 || ((u.length : Int) != t.1))

set_option maxHeartbeats 4000000 in
set_option maxRecDepth 100000 in
/-- What is counted is told where it lies. -/
theorem impl_taker_counted.calls (g : Nat) (s0_0 : List Int) (s0_1 : Int) (s0_2 : Bool) (r1 : List Int) (r2 : Int) (r3 : Bool) (w0 w : World) (hI : IsS66 w0 w g s0_0 s0_1 s0_2) (hB : Below w0.heap.size w0 w) (h : impl_taker_counted.f s0_0 s0_1 s0_2 = some (r1, r2, r3)) :
    Calls Try.prog 82 #[.pointer (some ⟨g, 0, none⟩)] w fun e w' => ∃ (A : Option Addr) (c : Nat), e = .returned (.slice A r1.length c) ∧ r1.length ≤ c ∧ Kd.C (Kd.int .u8) w0 A r1.length r1 ∧ IsS66 w0 w' g s0_0 r2 r3 ∧ Below w0.heap.size w0 w' ∧ KeepBut w w' g none := by
  obtain ⟨⟨n, p, b⟩, h1, h⟩ := Option.bind_eq_some_iff.mp h
  obtain ⟨u, h2, h⟩ := Option.bind_eq_some_iff.mp h
  simp only [Option.some.injEq, Prod.mk.injEq] at h
  obtain ⟨rfl, rfl, h3⟩ := h
  have H1 := Aside0.mk h1
  have H2 := Aside0.mk h2
  have HI := Aside0.mk hI
  have HB := Aside0.mk hB
  have HL := Aside0.mk hI.ge
  clear h1 h2 hI hB
  have hd : b = true ∨ b = false := by cases b <;> simp
  rcases hd with rfl | rfl
  all_goals
    simp only [Bool.true_or, Bool.false_or] at h3
    subst h3
    go_enter Try.func82, Try.ntmps82
    go_wp2_with (first | (go_at_call 88; refine (impl_taker_byte.calls g s0_0 s0_1 s0_2 n p _ w0 _ HI.out HB.out H1.out).mono ?_; rintro e w1 ⟨rfl, hi, hb, hk⟩; have HI1 := Aside0.mk hi; have HB1 := Aside0.mk hb; have HK1 := Aside0.mk hk; clear hi hb hk) | (go_at_call 89; refine (impl_taker_rest.calls g s0_0 p _ u w0 _ HI1.out HB1.out H2.out).mono ?_; rintro e w2 ⟨A, c, rfl, hlc, hC, hi, hb, hk⟩; have HLC := Aside0.mk hlc; have HC := Aside0.mk hC; have HI2 := Aside0.mk hi; have HB2 := Aside0.mk hb; have HK2 := Aside0.mk hk; obtain ⟨A2, c2, hb2, -, -⟩ := hi; obtain ⟨hz0, fz0, hz1, fz1, hz2, fz2⟩ := bk3 hb2; clear hlc hC hb hk hb2))
    go_ret
    exact ⟨A, c, rfl, HLC.out, HC.out, by repeat (first | (with_reducible first | exact HI2.out | apply IsS66.drewN | apply IsS66.set_1 | apply IsS66.set_2) | exact HI2.out), by repeat (first | (with_reducible first | exact HB2.out | apply pw_below_drewN | refine below_set ?_ HL.out) | exact HB2.out), by repeat (first | (with_reducible first | exact HK1.out.trans HK2.out (.inl rfl) | apply KeepBut.set_ | apply keep_drewN) | exact HK1.out.trans HK2.out (.inl rfl))⟩

end Go.Proofs.Yteoghpcgompajaa.G
