/- impl.SameDevice, told by what it computes. Condition: no row is longer than a machine's memory. -/
import Derived.Test.YtiiodfagedcofaaGSpecO
import Derived.Test.YtiiodfagedcofaaGSame
namespace Go.Proofs.Ytiiodfagedcofaa.G
open Go.Proofs.Ytiiodfagedcofaa.K Go Go.RowKit Go.Proofs.YtiiodfagedcofaaW.PrintWords Go.Proofs.YtiiodfagedcofaaW.PrintLast Go.Proofs.YtiiodfagedcofaaW.PrintMore Go.Proofs.Ytiiodfagedcofaa.PlainC
set_option linter.unusedVariables false
set_option linter.unusedSimpArgs false
theorem equalB_l0 (a b : List Bool) (hl : a.length ≤ 140737488355328) (he : a.length = b.length) (d : Nat) : ∀ i : Nat, i ≤ a.length → a.length - i = d →
    Ev (fun k => slices_Equal_bool_bool.l0 k a b (a.length : Int) (i : Int)) (decide (a.drop i = b.drop i)) := by
  induction d with
  | zero =>
    intro i hi hd
    obtain rfl : i = a.length := by omega
    refine evUp ?_
    have h1 : ¬ ((a.length : Nat) : Int) < (a.length : Int) := by omega
    simp only [slices_Equal_bool_bool.l0, h1, if_false]
    have e : decide (a.drop a.length = b.drop a.length) = true := by
      rw [List.drop_length, he, List.drop_length]; rfl
    rw [e]
    exact Ev.now _
  | succ d ih =>
    intro i hi hd
    have ha : i < a.length := by omega
    have hb : i < b.length := by omega
    refine evUp ?_
    have h1 : (i : Int) < (a.length : Int) := by omega
    have h2 : 0 ≤ (i : Int) := by omega
    have h3 : (i : Int) < (b.length : Int) := by omega
    simp only [slices_Equal_bool_bool.l0, h1, h2, h3, if_true]
    rw [rdOf_get ha, rdOf_get hb, w64 (by omega) (by omega)]
    by_cases e : a[i] = b[i]
    · simp only [e, bne_self_eq_false, Bool.false_eq_true, if_false]
      have e2 : decide (a.drop i = b.drop i) = decide (a.drop (i + 1) = b.drop (i + 1)) := by
        rw [decide_eq_decide, drop_eq_iff ha hb]; simp [e]
      rw [e2]
      exact ih (i + 1) (by omega) (by omega)
    · have e3 : (a[i] != b[i]) = true := by simpa using e
      simp only [e3, if_true]
      have e2 : decide (a.drop i = b.drop i) = false := by
        rw [decide_eq_false_iff_not, drop_eq_iff ha hb]; simp [e]
      rw [e2]
      exact Ev.now _

theorem equalB_ev (a b : List Bool) (hl : a.length ≤ 140737488355328) : Ev (fun k => slices_Equal_bool_bool.f k a b) (decide (a = b)) := by
  by_cases he : a.length = b.length
  · have h := equalB_l0 a b hl he a.length 0 (by omega) (by omega)
    have h1 : (a.length : Int) = (b.length : Int) := by omega
    simp only [slices_Equal_bool_bool.f, if_pos h1]
    exact h
  · have h1 : ¬ (a.length : Int) = (b.length : Int) := by omega
    have e : decide (a = b) = false := by
      rw [decide_eq_false_iff_not]; intro h; exact he (by rw [h])
    simp only [slices_Equal_bool_bool.f, h1, if_false]
    rw [e]
    exact Ev.now _

theorem equalB_refl (a : List Bool) (hl : a.length ≤ 140737488355328) : Ev (fun k => slices_Equal_bool_bool.f k a a) true := by
  have h := equalB_ev a a hl
  rwa [decide_eq_true rfl] at h
theorem equalI_l0 (a b : List Int) (hl : a.length ≤ 140737488351232) (he : a.length = b.length) (d : Nat) : ∀ i : Nat, i ≤ a.length → a.length - i = d →
    Ev (fun k => slices_Equal_int_int.l0 k a b (a.length : Int) (i : Int)) (decide (a.drop i = b.drop i)) := by
  induction d with
  | zero =>
    intro i hi hd
    obtain rfl : i = a.length := by omega
    refine evUp ?_
    have h1 : ¬ ((a.length : Nat) : Int) < (a.length : Int) := by omega
    simp only [slices_Equal_int_int.l0, h1, if_false]
    have e : decide (a.drop a.length = b.drop a.length) = true := by
      rw [List.drop_length, he, List.drop_length]; rfl
    rw [e]
    exact Ev.now _
  | succ d ih =>
    intro i hi hd
    have ha : i < a.length := by omega
    have hb : i < b.length := by omega
    refine evUp ?_
    have h1 : (i : Int) < (a.length : Int) := by omega
    have h2 : 0 ≤ (i : Int) := by omega
    have h3 : (i : Int) < (b.length : Int) := by omega
    simp only [slices_Equal_int_int.l0, h1, h2, h3, if_true]
    rw [rd_get ha, rd_get hb, w64 (by omega) (by omega)]
    by_cases e : a[i] = b[i]
    · simp only [e, if_true]
      have e2 : decide (a.drop i = b.drop i) = decide (a.drop (i + 1) = b.drop (i + 1)) := by
        rw [decide_eq_decide, drop_eq_iff ha hb]; simp [e]
      rw [e2]
      exact ih (i + 1) (by omega) (by omega)
    · simp only [e, if_false]
      have e2 : decide (a.drop i = b.drop i) = false := by
        rw [decide_eq_false_iff_not, drop_eq_iff ha hb]; simp [e]
      rw [e2]
      exact Ev.now _

theorem equalI_ev (a b : List Int) (hl : a.length ≤ 140737488351232) : Ev (fun k => slices_Equal_int_int.f k a b) (decide (a = b)) := by
  by_cases he : a.length = b.length
  · have h := equalI_l0 a b hl he a.length 0 (by omega) (by omega)
    have h1 : (a.length : Int) = (b.length : Int) := by omega
    simp only [slices_Equal_int_int.f, if_pos h1]
    exact h
  · have h1 : ¬ (a.length : Int) = (b.length : Int) := by omega
    have e : decide (a = b) = false := by
      rw [decide_eq_false_iff_not]; intro h; exact he (by rw [h])
    simp only [slices_Equal_int_int.f, h1, if_false]
    rw [e]
    exact Ev.now _

theorem equalI_refl (a : List Int) (hl : a.length ≤ 140737488351232) : Ev (fun k => slices_Equal_int_int.f k a a) true := by
  have h := equalI_ev a a hl
  rwa [decide_eq_true rfl] at h
/-- Are two devices alike? -/
def sameB (a b : List Bool) (c d : List Int) (a1 b1 : List Bool) (c1 d1 : List Int) : Bool := if decide (a = a1) = true then (if decide (b = b1) = true then (if decide (c = c1) = true then decide (d = d1) else false) else false) else false
theorem impl_SameDevice_ev (a b : List Bool) (c d : List Int) (a1 b1 : List Bool) (c1 d1 : List Int) (h1 : a.length ≤ 1048576) (h2 : b.length ≤ 1048576) (h3 : c.length ≤ 1048576) (h4 : d.length ≤ 1048576) :
    Ev (fun k => impl_SameDevice.f k a b c d a1 b1 c1 d1) (sameB a b c d a1 b1 c1 d1) := by
  simp only [impl_SameDevice.f, sameB]
  refine evBind (equalB_ev a a1 (by omega)) ?_
  split
  · refine evBind (equalB_ev b b1 (by omega)) ?_
    split
    · refine evBind (equalI_ev c c1 (by omega)) ?_
      split
      · refine evBind (equalI_ev d d1 (by omega)) ?_
        exact Ev.now _
      · exact Ev.now _
    · exact Ev.now _
  · exact Ev.now _
theorem same_own {w : World} {Aa0 Aa1 Aa2 Aa3 : Option Addr} {ca0 ca1 ca2 ca3 : Nat} {la0 la1 : List Bool} {la2 la3 : List Int} {Ab0 Ab1 Ab2 Ab3 : Option Addr} {cb0 cb1 cb2 cb3 : Nat} {lb0 lb1 : List Bool} {lb2 lb3 : List Int} (ha0 : Kd.C Kd.bool w Aa0 la0.length la0) (ka0 : la0.length ≤ ca0) (ha1 : Kd.C Kd.bool w Aa1 la1.length la1) (ka1 : la1.length ≤ ca1) (ha2 : Kd.C (Kd.int .i64) w Aa2 la2.length la2) (ka2 : la2.length ≤ ca2) (ha3 : Kd.C (Kd.int .i64) w Aa3 la3.length la3) (ka3 : la3.length ≤ ca3) (hb0 : Kd.C Kd.bool w Ab0 lb0.length lb0) (kb0 : lb0.length ≤ cb0) (hb1 : Kd.C Kd.bool w Ab1 lb1.length lb1) (kb1 : lb1.length ≤ cb1) (hb2 : Kd.C (Kd.int .i64) w Ab2 lb2.length lb2) (kb2 : lb2.length ≤ cb2) (hb3 : Kd.C (Kd.int .i64) w Ab3 lb3.length lb3) (kb3 : lb3.length ≤ cb3) (m0 : la0.length ≤ 1048576) (m1 : la1.length ≤ 1048576) (m2 : la2.length ≤ 1048576) (m3 : la3.length ≤ 1048576) : Calls Try.prog 11 #[.agg #[.slice Aa0 la0.length ca0, .slice Aa1 la1.length ca1, .slice Aa2 la2.length ca2, .slice Aa3 la3.length ca3], .agg #[.slice Ab0 lb0.length cb0, .slice Ab1 lb1.length cb1, .slice Ab2 lb2.length cb2, .slice Ab3 lb3.length cb3]] w fun e w' => e = .returned (.bool (sameB la0 la1 la2 la3 lb0 lb1 lb2 lb3)) ∧ Below w.heap.size w w' := by
  obtain ⟨r, hr⟩ := Ev.rounds (impl_SameDevice_ev la0 la1 la2 la3 lb0 lb1 lb2 lb3 m0 m1 m2 m3)
  exact impl_SameDevice.calls r _ _ _ _ _ _ _ _ _ _ _ _ _ _ _ _ _ _ _ _ _ _ _ _ _ _ ha0 ka0 ha1 ka1 ha2 ka2 ha3 ka3 hb0 kb0 hb1 kb1 hb2 kb2 hb3 kb3 hr
end Go.Proofs.Ytiiodfagedcofaa.G
