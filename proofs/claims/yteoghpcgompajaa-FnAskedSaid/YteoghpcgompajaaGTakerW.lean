/- What the method of impl's taker does that takes counted words. No condition. -/
import Derived.Test.YteoghpcgompajaaGTakerN
import Derived.Test.YteoghpcgompajaaGTakeW
namespace Go.Proofs.Yteoghpcgompajaa.G
open Go Go.RowKit Go.Proofs.Yteoghpcgompajaa.K Go.Proofs.YteoghpcgompajaaW.PrintWords Go.Proofs.YteoghpcgompajaaW.PrintLast Go.Proofs.YteoghpcgompajaaW.PrintMore
set_option linter.unusedVariables false
set_option linter.unusedSimpArgs false

/-- A taker of its own, at its first byte. -/
theorem words_new (k : Nat) (W W' : World) (g : Nat) (A : Option Addr) (c : Nat) (l : List Int) (n : Int) (r : List Int) (p : Int) (b : Bool) (hC : Kd.C (Kd.int .u8) W A l.length l) (hc : l.length ≤ c)
    (hW : W' = W.alloc (.cells #[.slice A l.length c, .int .i64 0, .bool false] 66)) (hg : g = W.heap.size) (h : impl_taker_words.f k l 0 false n = some (r, p, b)) :
    Calls Try.prog 70 #[.pointer (some ⟨g, 0, none⟩), .int .i64 n] W' fun e w' => ∃ v0_ : Value, e = .returned v0_ ∧ Kd.R (Kd.int .i64) 3 w' W.heap.size (fun _ => True) v0_ r ∧ Below W.heap.size W w' := by
  subst hW; subst hg
  refine (impl_taker_words.calls k _ l 0 false n r p b W _ (IsS66.new W W A c l 0 false (Below.refl _ _) hC hc) (below_alloc (Below.refl _ _) _) h).mono ?_
  rintro e w' ⟨v, rfl, ho, -, hb, -⟩
  exact ⟨v, rfl, Kd.R_lower ho (by simp), hb⟩

def impl_taker_countedWords.f (k : Nat) (s0_0 : List Int) (s0_1 : Int) (s0_2 : Bool) (a1 : Int) : Option (List Int × Int × Bool) :=
  (impl_taker_counted.f s0_0 s0_1 s0_2).bind fun t => if (t.2.2 || ((t.1.length : Int) != wrap64 (2 * a1))) = true then some ([], t.2.1, true) else (impl_taker_words.f k t.1 0 false a1).bind fun u => some (u.1, t.2.1, false)
theorem impl_taker_countedWords.mono : ∀ a0 a1 a2 a3 k, LeO (impl_taker_countedWords.f k a0 a1 a2 a3) (impl_taker_countedWords.f (k + 1) a0 a1 a2 a3) :=
  fun a0 a1 a2 a3 k => LeO.bind (LeO.refl _) fun t => LeO.ite (LeO.refl _) (LeO.bind (impl_taker_words.mono _ _ _ _ _) fun _ => LeO.refl _)

set_option maxHeartbeats 4000000 in
set_option maxRecDepth 100000 in
theorem impl_taker_countedWords.calls (k : Nat) (g : Nat) (s0_0 : List Int) (s0_1 : Int) (s0_2 : Bool) (a1 : Int) (r1 : List Int) (r2 : Int) (r3 : Bool) (w0 w : World) (hI : IsS66 w0 w g s0_0 s0_1 s0_2) (hB : Below w0.heap.size w0 w) (h : impl_taker_countedWords.f k s0_0 s0_1 s0_2 a1 = some (r1, r2, r3)) :
    Calls Try.prog 72 #[.pointer (some ⟨g, 0, none⟩), .int .i64 a1] w fun e w' => ∃ v0_ : Value, e = .returned (v0_) ∧ Kd.R (Kd.int .i64) 3 w' w.heap.size (fun _ => True) v0_ r1 ∧ IsS66 w0 w' g s0_0 r2 r3 ∧ Below w0.heap.size w0 w' ∧ KeepBut w w' g none := by
  obtain ⟨⟨u, p, b⟩, h1, h⟩ := Option.bind_eq_some_iff.mp h
  have H1 := Aside0.mk h1
  have HI := Aside0.mk hI
  have HB := Aside0.mk hB
  have HL := Aside0.mk hI.ge
  clear h1 hI hB
  obtain ⟨j, hj⟩ : ∃ j, wrap64 (2 * a1) = j := ⟨_, rfl⟩
  have hjw : IntKind.i64.wrap (2 * a1) = j := (i64_w _).trans hj
  simp only [hj] at h
  by_cases c : (b || ((u.length : Int) != j)) = true
  · rw [if_pos c] at h
    simp only [Option.some.injEq, Prod.mk.injEq] at h
    obtain ⟨rfl, rfl, rfl⟩ := h
    have hd : b = true ∨ (b = false ∧ ((u.length : Int) != j) = true) := by cases b <;> simp_all
    clear c
    rcases hd with rfl | ⟨rfl, c2⟩
    · go_enter Try.func72, Try.ntmps72
      go_wp2_with (first | (go_at_call 82; refine (impl_taker_counted.calls g s0_0 s0_1 s0_2 u p _ w0 _ HI.out HB.out H1.out).mono ?_; rintro e w1 ⟨A, c, rfl, hlc, hC, hi, hb, hk⟩; have HI1 := Aside0.mk hi; have HB1 := Aside0.mk hb; have HK1 := Aside0.mk hk; obtain ⟨A2, c2, hb2, -, -⟩ := hi; obtain ⟨hz0, fz0, hz1, fz1, hz2, fz2⟩ := bk3 hb2; clear hlc hC hb hk hb2))
      go_ret
      exact ⟨_, rfl, Kd.R_nil _ _ _ _ _, by repeat (first | (with_reducible first | exact HI1.out | apply IsS66.drewN | apply IsS66.set_1 | apply IsS66.set_2) | exact HI1.out), by repeat (first | (with_reducible first | exact HB1.out | apply pw_below_drewN | refine below_set ?_ HL.out) | exact HB1.out), by repeat (first | (with_reducible first | exact HK1.out | apply KeepBut.set_ | apply keep_drewN) | exact HK1.out)⟩
    · have c3 : ((u.length : Int) == j) = false := by simpa using c2
      go_enter Try.func72, Try.ntmps72
      go_wp2_with (first | (go_at_call 82; refine (impl_taker_counted.calls g s0_0 s0_1 s0_2 u p _ w0 _ HI.out HB.out H1.out).mono ?_; rintro e w1 ⟨A, c, rfl, hlc, hC, hi, hb, hk⟩; have HI1 := Aside0.mk hi; have HB1 := Aside0.mk hb; have HK1 := Aside0.mk hk; obtain ⟨A2, c2, hb2, -, -⟩ := hi; obtain ⟨hz0, fz0, hz1, fz1, hz2, fz2⟩ := bk3 hb2; clear hlc hC hb hk hb2))
      go_ret
      exact ⟨_, rfl, Kd.R_nil _ _ _ _ _, by repeat (first | (with_reducible first | exact HI1.out | apply IsS66.drewN | apply IsS66.set_1 | apply IsS66.set_2) | exact HI1.out), by repeat (first | (with_reducible first | exact HB1.out | apply pw_below_drewN | refine below_set ?_ HL.out) | exact HB1.out), by repeat (first | (with_reducible first | exact HK1.out | apply KeepBut.set_ | apply keep_drewN) | exact HK1.out)⟩
  · rw [if_neg c] at h
    have hd : b = false ∧ ((u.length : Int) != j) = false := by cases b <;> simp_all
    clear c
    obtain ⟨rfl, c2⟩ := hd
    have c3 : ((u.length : Int) == j) = true := by simpa using c2
    obtain ⟨⟨u2, p2, b2⟩, h2, h⟩ := Option.bind_eq_some_iff.mp h
    simp only [Option.some.injEq, Prod.mk.injEq] at h
    obtain ⟨rfl, rfl, rfl⟩ := h
    have H2 := Aside0.mk h2
    clear h2
    go_enter Try.func72, Try.ntmps72
    go_wp2_with (first | (go_at_call 82; refine (impl_taker_counted.calls g s0_0 s0_1 s0_2 u p _ w0 _ HI.out HB.out H1.out).mono ?_; rintro e w1 ⟨A, c, rfl, hlc, hC, hi, hb, hk⟩; have HLC := Aside0.mk hlc; have HC := Aside0.mk hC; have HI1 := Aside0.mk hi; have HB1 := Aside0.mk (show Below w0.heap.size w0 (w1.setCell ⟨g, 2, none⟩ (.bool false)) from below_set hb HL.out); have HK1 := Aside0.mk (KeepBut.set_ hk 2 (.bool false)); have HI2 := Aside0.mk (IsS66.set_2 hi false); obtain ⟨A2, c2, hb2, -, -⟩ := hi; obtain ⟨hz0, fz0, hz1, fz1, hz2, fz2⟩ := bk3 hb2; clear hlc hC hb hk hb2) | (go_at_call 70; refine (words_new k (w1.setCell ⟨g, 2, none⟩ (.bool false)) _ _ A c u a1 u2 p2 b2 (Kd.C_below HC.out HB1.out) HLC.out ?hw ?hg H2.out).mono ?_; (case hw => rfl); (case hg => simp); rintro e w2 ⟨v0, rfl, ho, hb⟩; have HO := Aside0.mk (Kd.R_lower ho (keep_size HK1.out)); have HI3 := Aside0.mk (HI2.out.below hb); have HB2 := Aside0.mk (below_step HB1.out hb); have HK2 := Aside0.mk (HK1.out.trans (KeepBut.of_below hb g none) (.inl rfl)); clear ho hb))
    go_ret
    exact ⟨v0, rfl, HO.out, HI3.out, HB2.out, HK2.out⟩
end Go.Proofs.Yteoghpcgompajaa.G
