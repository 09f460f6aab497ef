/- What the methods of impl's taker do that take words, what is left, and bits. No condition. -/
import Derived.Test.YteoghpcgompajaaGTakeB
import Derived.Test.YteoghpcgompajaaK
import Derived.Deep.QuietTactic
import Derived.BigQuiet
namespace Go.Proofs.Yteoghpcgompajaa.G
open Go Go.RowKit Go.Proofs.Yteoghpcgompajaa.K Go.Proofs.YteoghpcgompajaaW.PrintWords Go.Proofs.YteoghpcgompajaaW.PrintLast Go.Proofs.YteoghpcgompajaaW.PrintMore
set_option linter.unusedVariables false
set_option linter.unusedSimpArgs false

theorem infoTk : (Try.prog.info? 5).map (fun i => (i.zero, i.size, i.bytes)) = some (some (.int .u8 0), 1, 1) := by kernel_rfl

theorem quiet_drawn {P : Program} {f : FuncId} {args : Array Value} {w : World} {n : Nat} {v : Value} (h : Calls P f args (w.drewN n) fun e w' => e = .returned v ∧ Drawn0 (w.drewN n) w') :
    Calls P f args (w.drewN n) fun e w'' => e = .returned v ∧ ∃ m, w'' = w.drewN m := Calls.quiet_of (h.mono fun _ _ hh => ⟨hh.1, hh.2.out⟩)

def impl_taker_word.f (s0_0 : List Int) (s0_1 : Int) (s0_2 : Bool) : Option (Int × Int × Bool) :=
  (impl_WordAt.f s0_0 s0_1).bind fun t => if s0_2 = true then some (0, s0_1, true) else if t.2 = true then some (t.1, wrap64 (s0_1 + 2), false) else some (0, s0_1, true)

set_option maxHeartbeats 2000000 in
set_option maxRecDepth 100000 in
theorem impl_taker_word.calls (g : Nat) (s0_0 : List Int) (s0_1 : Int) (s0_2 : Bool) (r1 : Int) (r2 : Int) (r3 : Bool) (w0 w : World) (hI : IsS66 w0 w g s0_0 s0_1 s0_2) (hB : Below w0.heap.size w0 w) (h : impl_taker_word.f s0_0 s0_1 s0_2 = some (r1, r2, r3)) :
    Calls Try.prog 68 #[.pointer (some ⟨g, 0, none⟩)] w fun e w' => e = .returned (.int .i64 r1) ∧ IsS66 w0 w' g s0_0 r2 r3 ∧ Below w0.heap.size w0 w' ∧ KeepBut w w' g none := by
  obtain ⟨⟨n, ok⟩, hw, h2⟩ := Option.bind_eq_some_iff.mp h
  clear h
  have HW := Aside0.mk hw
  clear hw
  have HI := Aside0.mk hI
  obtain ⟨A, c, hb, hg, hr⟩ := hI
  have HR := Aside0.mk (Kd.C_below hr hB)
  have HC := Aside0.mk hg.2
  have HL := Aside0.mk hg.1
  have HB := Aside0.mk hB
  have HK := Aside0.mk (KeepBut.refl w g none)
  obtain ⟨hz0, fz0, hz1, fz1, hz2, fz2⟩ := bk3 hb
  clear hr hg hb hB
  cases s0_2 with
  | true =>
    rw [if_pos rfl] at h2
    simp only [Option.some.injEq, Prod.mk.injEq] at h2
    obtain ⟨rfl, rfl, rfl⟩ := h2
    go_enter Try.func68, Try.ntmps68
    go_wp2
    go_quiet ((go_at_call 80; exact quiet_drawn (impl_WordAt.calls A c s0_0 s0_1 n ok _ (Kd.C_drewN HR.out _) HC.out HW.out)))
    go_wp2
    go_ret
    exact ⟨rfl, by repeat (first | (with_reducible first | exact HI.out | apply IsS66.drewN | apply IsS66.set_1 | apply IsS66.set_2) | exact HI.out), by repeat (first | (with_reducible first | exact HB.out | apply pw_below_drewN | refine below_set ?_ HL.out) | exact HB.out), by repeat (first | (with_reducible first | exact HK.out | apply KeepBut.set_ | apply keep_drewN) | exact HK.out)⟩
  | false =>
    rw [if_neg (by decide)] at h2
    cases ok with
    | true =>
      rw [if_pos rfl] at h2
      simp only [Option.some.injEq, Prod.mk.injEq] at h2
      obtain ⟨rfl, rfl, rfl⟩ := h2
      go_enter Try.func68, Try.ntmps68
      go_wp2
      go_quiet ((go_at_call 80; exact quiet_drawn (impl_WordAt.calls A c s0_0 s0_1 n true _ (Kd.C_drewN HR.out _) HC.out HW.out)))
      go_wp2
      go_ret
      exact ⟨rfl, by repeat (first | (with_reducible first | exact HI.out | apply IsS66.drewN | apply IsS66.set_1 | apply IsS66.set_2) | exact HI.out), by repeat (first | (with_reducible first | exact HB.out | apply pw_below_drewN | refine below_set ?_ HL.out) | exact HB.out), by repeat (first | (with_reducible first | exact HK.out | apply KeepBut.set_ | apply keep_drewN) | exact HK.out)⟩
    | false =>
      rw [if_neg (by simp)] at h2
      simp only [Option.some.injEq, Prod.mk.injEq] at h2
      obtain ⟨rfl, rfl, rfl⟩ := h2
      go_enter Try.func68, Try.ntmps68
      go_wp2
      go_quiet ((go_at_call 80; exact quiet_drawn (impl_WordAt.calls A c s0_0 s0_1 n false _ (Kd.C_drewN HR.out _) HC.out HW.out)))
      go_wp2
      go_ret
      exact ⟨rfl, by repeat (first | (with_reducible first | exact HI.out | apply IsS66.drewN | apply IsS66.set_1 | apply IsS66.set_2) | exact HI.out), by repeat (first | (with_reducible first | exact HB.out | apply pw_below_drewN | refine below_set ?_ HL.out) | exact HB.out), by repeat (first | (with_reducible first | exact HK.out | apply KeepBut.set_ | apply keep_drewN) | exact HK.out)⟩

def impl_taker_rest.f (s0_0 : List Int) (s0_1 : Int) : Option (List Int) := if 0 ≤ s0_1 then (if s0_1 ≤ (s0_0.length : Int) then some (s0_0.drop s0_1.toNat) else none) else none

set_option maxHeartbeats 2000000 in
set_option maxRecDepth 100000 in
/-- What is left is told where it lies. -/
theorem impl_taker_rest.calls (g : Nat) (s0_0 : List Int) (s0_1 : Int) (s0_2 : Bool) (r1 : List Int) (w0 w : World) (hI : IsS66 w0 w g s0_0 s0_1 s0_2) (hB : Below w0.heap.size w0 w) (h : impl_taker_rest.f s0_0 s0_1 = some r1) :
    Calls Try.prog 89 #[.pointer (some ⟨g, 0, none⟩)] w fun e w' => ∃ (A : Option Addr) (c : Nat), e = .returned (.slice A r1.length c) ∧ r1.length ≤ c ∧ Kd.C (Kd.int .u8) w0 A r1.length r1 ∧ IsS66 w0 w' g s0_0 (s0_0.length : Int) s0_2 ∧ Below w0.heap.size w0 w' ∧ KeepBut w w' g none := by
  unfold impl_taker_rest.f at h
  by_cases p1 : 0 ≤ s0_1
  · rw [if_pos p1] at h
    by_cases p2 : s0_1 ≤ (s0_0.length : Int)
    · rw [if_pos p2] at h
      obtain rfl := Option.some.inj h
      have HI := Aside0.mk hI
      obtain ⟨A, c, hb, hg, hr⟩ := hI
      obtain ⟨i0, hi, hz⟩ := Option.map_eq_some_iff.1 infoTk
      simp only [Prod.mk.injEq] at hz
      have hcut := cut_from (P := Try.prog) 33 5 .i64 Try.underlying33 hi 1 hz.2.1 A s0_0.length c s0_1 p1 p2
      have hcd := Kd.C_drop (m := s0_1.toNat) hr (by omega) hg.2
      have hl : (s0_0.drop s0_1.toNat).length = s0_0.length - s0_1.toNat := List.length_drop
      have hlc : (s0_0.drop s0_1.toNat).length ≤ c - s0_1.toNat := by rw [hl]; have := hg.2; omega
      rw [← hl] at hcut
      simp only [Kd.int, Kd.scalar] at hcd
      generalize (if c = s0_1.toNat then A else A.map fun x => x.add (s0_1.toNat * 1)) = A' at hcut hcd
      generalize c - s0_1.toNat = c' at hcut hlc
      have HCD := Aside0.mk hcd
      have HLC := Aside0.mk hlc
      have HL := Aside0.mk hg.1
      have HB := Aside0.mk hB
      have HK := Aside0.mk (KeepBut.refl w g none)
      obtain ⟨hz0, fz0, hz1, fz1, hz2, fz2⟩ := bk3 hb
      clear hr hg hb hB hi hz hcd hl hlc p1 p2
      generalize s0_0.drop s0_1.toNat = R at hcut HCD HLC
      go_enter Try.func89, Try.ntmps89
      go_wp2
      go_quiet (fail)
      go_wp2
      go_ret
      exact ⟨A', c', rfl, HLC.out, HCD.out, by repeat (first | (with_reducible first | exact HI.out | apply IsS66.drewN | apply IsS66.set_1 | apply IsS66.set_2) | exact HI.out), by repeat (first | (with_reducible first | exact HB.out | apply pw_below_drewN | refine below_set ?_ HL.out) | exact HB.out), by repeat (first | (with_reducible first | exact HK.out | apply KeepBut.set_ | apply keep_drewN) | exact HK.out)⟩
    · rw [if_neg p2] at h; exact absurd h (by simp)
  · rw [if_neg p1] at h; exact absurd h (by simp)
end Go.Proofs.Yteoghpcgompajaa.G
