/- spec.ReqOk, spec.Spaces, impl.SameDevice, told by what they compute. Condition: no row is longer than a machine's memory. -/
import Derived.Test.YtiogbjbkfhhdhaaGSrvO
import Derived.Test.YtiogbjbkfhhdhaaGSpecA
namespace Go.Proofs.Ytiogbjbkfhhdhaa.G
open Go.Proofs.Ytiogbjbkfhhdhaa.K Go Go.RowKit Go.Proofs.YtiogbjbkfhhdhaaW.PrintWords Go.Proofs.YtiogbjbkfhhdhaaW.PrintLast Go.Proofs.YtiogbjbkfhhdhaaW.PrintMore Go.Proofs.Ytiogbjbkfhhdhaa.PlainC
set_option linter.unusedVariables false
set_option linter.unusedSimpArgs false
theorem spec_in_eq (a b c : Int) : spec_l1In.f a b c = some (decide (b ≤ a ∧ a ≤ c)) := by
  by_cases h0 : a ≥ b
  · have h1 : b ≤ a := h0
    simp only [spec_l1In.f, h0, h1, if_true, true_and]
  · have h1 : ¬ b ≤ a := h0
    simp only [spec_l1In.f, h0, h1, if_false, false_and, decide_false]
theorem l3Words_l0 (l : List Int) (hl : l.length ≤ 1048576) (d : Nat) : ∀ i : Nat, i ≤ l.length → l.length - i = d →
    Ev (fun k => spec_l3Words.l0 k l (i : Int)) ((l.drop i).all wordB) := by
  induction d with
  | zero =>
    intro i hi hd
    obtain rfl : i = l.length := by omega
    refine evUp ?_
    have h1 : ¬ ((l.length : Nat) : Int) < (l.length : Int) := by omega
    simp only [spec_l3Words.l0, h1, if_false]
    rw [List.drop_length]
    exact Ev.now _
  | succ d ih =>
    intro i hi hd
    have hlt : i < l.length := by omega
    refine evUp ?_
    have h1 : (i : Int) < (l.length : Int) := by omega
    have h2 : 0 ≤ (i : Int) := by omega
    have hi2 : spec_l1In.f l[i] 0 65535 = some (wordB l[i]) := by
      unfold wordB
      by_cases g : l[i] ≥ 0
      · have g2 : 0 ≤ l[i] := g
        simp only [spec_l1In.f, g, g2, if_true, decide_true, Bool.true_and]
      · have g2 : ¬ 0 ≤ l[i] := g
        simp only [spec_l1In.f, g, g2, if_false, decide_false, Bool.false_and]
    have e : (l.drop i).all wordB = (wordB l[i] && (l.drop (i + 1)).all wordB) := by
      rw [List.drop_eq_getElem_cons hlt, List.all_cons]
    simp only [spec_l3Words.l0, h1, h2, if_true, rd_get hlt, hi2, Option.bind_some, e]
    rw [w64 (x := (i : Int) + 1) (by omega) (by omega)]
    by_cases hw : wordB l[i] = true
    · simp only [hw, if_true, Bool.true_and]
      exact ih (i + 1) (by omega) (by omega)
    · have hw2 : wordB l[i] = false := by simpa using hw
      simp only [hw2, Bool.false_eq_true, if_false, Bool.false_and]
      exact Ev.now _
theorem l3Words_ev (l : List Int) (hl : l.length ≤ 1048576) : Ev (fun k => spec_l3Words.f k l) (l.all wordB) := by
  have h := l3Words_l0 l hl l.length 0 (by omega) (by omega)
  rw [List.drop_zero] at h
  exact h
theorem spec_l3Zero_eq (k a n : Int) (w : List Int) (t : List Bool) (e : Int) (b1 b2 b3 b4 : Bool) : spec_l3Zero.f k a n w t e b1 b2 b3 b4 = some ((b1 || decide (n = 0)) && ((b2 || decide (w.length = 0)) && ((b3 || decide (t.length = 0)) && (b4 || decide (e = 0))))) := by
  have q : ∀ m : Nat, ((m : Int) = 0) = (m = 0) := fun m => propext ⟨fun h => by omega, fun h => by omega⟩
  simp only [spec_l3Zero.f, q]
  by_cases h1 : n = 0 <;> by_cases h2 : w.length = 0 <;> by_cases h3 : t.length = 0 <;> by_cases h4 : e = 0 <;> cases b1 <;> cases b2 <;> cases b3 <;> cases b4 <;> simp [h1, h2, h3, h4]
theorem spec_l3Fits_eq (a n : Int) (hn : 0 ≤ n) (hn2 : n ≤ 1048576) : spec_l3Fits.f a n = some (decide (0 ≤ a ∧ a ≤ 65535) && decide (a + n ≤ 65536)) := by
  simp only [spec_l3Fits.f, spec_in_eq, Option.bind_some]
  by_cases h : 0 ≤ a ∧ a ≤ 65535
  · have e : wrap64 (a + n) = a + n := w64 (by omega) (by omega)
    simp [h, e]
  · simp [h]
/-- What is asked where a number is known to lie between bounds. -/
theorem fits_in (a n m : Int) (hm : m ≤ 1048576) : ((some (decide (1 ≤ n ∧ n ≤ m))).bind fun b => if b = true then (spec_l3Fits.f a n).bind fun c => some c else some false) = some (decide (1 ≤ n ∧ n ≤ m) && (decide (0 ≤ a ∧ a ≤ 65535) && decide (a + n ≤ 65536))) := by
  simp only [Option.bind_some]
  by_cases h : 1 ≤ n ∧ n ≤ m
  · rw [spec_l3Fits_eq a n (by omega) (by omega)]
    simp [h]
  · simp [h]
theorem reqOkS_j0_no (k a n : Int) (w : List Int) (t : List Bool) (e : Int) : Ev (fun r => spec_ReqOk.j0 r true k a n w t e) false := by
  refine evUp ?_
  simp only [spec_ReqOk.j0, if_true]
  exact Ev.now _
theorem reqOkS_j2 (k a n : Int) (w : List Int) (t : List Bool) (e : Int) (hw : w.length ≤ 1048576) (ht : t.length ≤ 1048576) (h12 : ¬ (k = 1 ∨ k = 2)) (ha : wordB a = true) (hW : w.all wordB = true) (b : Bool) (hb : b = decide (k = 3 ∨ k = 4)) :
    Ev (fun r => spec_ReqOk.j2 r k b k a n w t e) (reqB k a n w t e) := by
  have ha2 := ha
  rw [wordB_eq, decide_eq_true_iff] at ha2
  have q1 : ∀ m : Nat, (((m : Nat) : Int) == 1) = decide (m = 1) := fun m => by rw [Bool.eq_iff_iff]; simp; omega
  have q2 : ∀ m : Nat, (((m : Nat) : Int) == 2) = decide (m = 2) := fun m => by rw [Bool.eq_iff_iff]; simp; omega
  refine evUp ?_
  by_cases h34 : k = 3 ∨ k = 4
  · have hb2 : b = true := by rw [hb]; exact decide_eq_true h34
    have er : reqB k a n w t e = decide ((1 ≤ n ∧ n ≤ 125) ∧ w.length = 0 ∧ t.length = 0 ∧ e = 0 ∧ a + n ≤ 65536) := by
      unfold reqB; rw [hW, ha, if_neg h12, if_pos h34]; rfl
    simp only [spec_ReqOk.j2, hb2, if_true, spec_l3Zero_eq, spec_in_eq, Option.bind_some, er]
    by_cases h : 1 ≤ n ∧ n ≤ 125
    · rw [spec_l3Fits_eq a n (by omega) (by omega)]
      simp only [h, and_self, decide_true, if_true, Option.bind_some, ha2, Bool.true_and, iteS, true_and]
      refine Ev.congr (fun _ => ?_) (Ev.now _)
      congr 1
      rw [Bool.eq_iff_iff]; simp [-List.length_eq_zero_iff]; omega
    · have hf : decide (1 ≤ n ∧ n ≤ 125) = false := decide_eq_false h
      simp only [hf, Bool.false_eq_true, if_false, ite_self]
      refine Ev.congr (fun _ => ?_) (Ev.now _)
      congr 1
      rw [Bool.eq_iff_iff]; simp [-List.length_eq_zero_iff]; omega
  · have hb2 : b = false := by rw [hb]; exact decide_eq_false h34
    have er : reqB k a n w t e = if k = 5 then decide (n = 0 ∧ w.length = 0 ∧ t.length = 1 ∧ e = 0)
      else if k = 6 then decide (n = 0 ∧ w.length = 1 ∧ t.length = 0 ∧ e = 0)
      else if k = 15 then decide (n = 0 ∧ w.length = 0 ∧ (1 ≤ t.length ∧ t.length ≤ 1968) ∧ e = 0 ∧ a + t.length ≤ 65536)
      else if k = 16 then decide (n = 0 ∧ (1 ≤ w.length ∧ w.length ≤ 123) ∧ t.length = 0 ∧ e = 0 ∧ a + w.length ≤ 65536)
      else if k = 22 then decide (n = 0 ∧ w.length = 2 ∧ t.length = 0 ∧ e = 0)
      else if k = 23 then decide ((1 ≤ n ∧ n ≤ 125) ∧ (1 ≤ w.length ∧ w.length ≤ 121) ∧ t.length = 0 ∧ (0 ≤ e ∧ e ≤ 65535) ∧ a + n ≤ 65536 ∧ e + w.length ≤ 65536)
      else false := by
      unfold reqB; rw [hW, ha, if_neg h12, if_neg h34]; rfl
    have hwl : 0 ≤ (w.length : Int) := by omega
    have htl : 0 ≤ (t.length : Int) := by omega
    simp only [spec_ReqOk.j2, hb2, Bool.false_eq_true, if_false, spec_l3Zero_eq, spec_in_eq, Option.bind_some, er, spec_l3Fits_eq a (w.length : Int) hwl (by omega), spec_l3Fits_eq a (t.length : Int) htl (by omega), spec_l3Fits_eq e (w.length : Int) hwl (by omega), q1, q2, iteS]
    by_cases h5 : k = 5
    · simp only [h5, if_true]
      refine Ev.congr (fun _ => ?_) (Ev.now _)
      congr 1
      rw [Bool.eq_iff_iff]; simp [-List.length_eq_zero_iff]; omega
    by_cases h6 : k = 6
    · simp only [h6, Int.reduceEq, if_true, if_false]
      refine Ev.congr (fun _ => ?_) (Ev.now _)
      congr 1
      rw [Bool.eq_iff_iff]; simp [-List.length_eq_zero_iff]; omega
    by_cases h15 : k = 15
    · simp only [h15, Int.reduceEq, if_true, if_false]
      refine Ev.congr (fun _ => ?_) (Ev.now _)
      congr 1
      rw [Bool.eq_iff_iff]; simp [ha2, -List.length_eq_zero_iff]; omega
    by_cases h16 : k = 16
    · simp only [h16, Int.reduceEq, if_true, if_false]
      refine Ev.congr (fun _ => ?_) (Ev.now _)
      congr 1
      rw [Bool.eq_iff_iff]; simp [ha2, -List.length_eq_zero_iff]; omega
    by_cases h22 : k = 22
    · simp only [h22, Int.reduceEq, if_true, if_false]
      refine Ev.congr (fun _ => ?_) (Ev.now _)
      congr 1
      rw [Bool.eq_iff_iff]; simp [-List.length_eq_zero_iff]; omega
    by_cases h23 : k = 23
    · simp only [h23, Int.reduceEq, if_true, if_false]
      by_cases h : 1 ≤ n ∧ n ≤ 125
      · rw [spec_l3Fits_eq a n (by omega) (by omega)]
        simp only [Option.bind_some, iteS]
        refine Ev.congr (fun _ => ?_) (Ev.now _)
        congr 1
        rw [Bool.eq_iff_iff]; simp [ha2, h, -List.length_eq_zero_iff]; omega
      · have hf : decide (1 ≤ n ∧ n ≤ 125) = false := decide_eq_false h
        simp only [hf, Bool.false_eq_true, if_false, ite_self]
        refine Ev.congr (fun _ => ?_) (Ev.now _)
        congr 1
        rw [Bool.eq_iff_iff]; simp [-List.length_eq_zero_iff]; omega
    · simp only [h5, h6, h15, h16, h22, h23, if_false]; exact Ev.now _
theorem reqOkS_j1 (k a n : Int) (w : List Int) (t : List Bool) (e : Int) (hw : w.length ≤ 1048576) (ht : t.length ≤ 1048576) (ha : wordB a = true) (hW : w.all wordB = true) (b : Bool) (hb : b = decide (k = 1 ∨ k = 2)) :
    Ev (fun r => spec_ReqOk.j1 r k b k a n w t e) (reqB k a n w t e) := by
  have ha2 := ha
  rw [wordB_eq, decide_eq_true_iff] at ha2
  refine evUp ?_
  by_cases h12 : k = 1 ∨ k = 2
  · have hb2 : b = true := by rw [hb]; exact decide_eq_true h12
    have er : reqB k a n w t e = decide ((1 ≤ n ∧ n ≤ 2000) ∧ w.length = 0 ∧ t.length = 0 ∧ e = 0 ∧ a + n ≤ 65536) := by
      unfold reqB; rw [hW, ha, if_pos h12]; rfl
    simp only [spec_ReqOk.j1, hb2, if_true, spec_l3Zero_eq, spec_in_eq, Option.bind_some, er]
    by_cases h : 1 ≤ n ∧ n ≤ 2000
    · rw [spec_l3Fits_eq a n (by omega) (by omega)]
      simp only [h, and_self, decide_true, if_true, Option.bind_some, ha2, Bool.true_and, iteS, true_and]
      refine Ev.congr (fun _ => ?_) (Ev.now _)
      congr 1
      rw [Bool.eq_iff_iff]; simp [-List.length_eq_zero_iff]; omega
    · have hf : decide (1 ≤ n ∧ n ≤ 2000) = false := decide_eq_false h
      simp only [hf, Bool.false_eq_true, if_false, ite_self]
      refine Ev.congr (fun _ => ?_) (Ev.now _)
      congr 1
      rw [Bool.eq_iff_iff]; simp [-List.length_eq_zero_iff]; omega
  · have hb2 : b = false := by rw [hb]; exact decide_eq_false h12
    simp only [spec_ReqOk.j1, hb2, Bool.false_eq_true, if_false]
    by_cases h3 : k = 3
    · subst h3
      simp only [if_true]
      exact reqOkS_j2 3 a n w t e hw ht h12 ha hW _ (by decide)
    · simp only [h3, if_false]
      exact reqOkS_j2 k a n w t e hw ht h12 ha hW _ (by simp [h3, BEq.beq])
theorem spec_ReqOk_ev (k a n : Int) (w : List Int) (t : List Bool) (e : Int) (hw : w.length ≤ 1048576) (ht : t.length ≤ 1048576) : Ev (fun r => spec_ReqOk.f r k a n w t e) (reqB k a n w t e) := by
  simp only [spec_ReqOk.f]
  refine evBind (l3Words_ev w hw) ?_
  by_cases hW : w.all wordB = true
  · simp only [hW, if_true, spec_in_eq, Option.bind_some]
    by_cases ha : wordB a = true
    · have ha2 := ha
      rw [wordB_eq] at ha2
      rw [ha2, Bool.not_true]
      refine evUp ?_
      simp only [spec_ReqOk.j0, Bool.false_eq_true, if_false]
      by_cases h1 : k = 1
      · subst h1
        simp only [if_true]
        exact reqOkS_j1 1 a n w t e hw ht ha hW _ (by decide)
      · simp only [h1, if_false]
        exact reqOkS_j1 k a n w t e hw ht ha hW _ (by simp [h1, BEq.beq])
    · have ha1 : wordB a = false := by simpa using ha
      have er : reqB k a n w t e = false := by unfold reqB; rw [ha1, Bool.and_false, Bool.false_and]
      rw [wordB_eq] at ha1
      rw [er, ha1, Bool.not_false]
      exact reqOkS_j0_no k a n w t e
  · have hW2 : w.all wordB = false := by simpa using hW
    have er : reqB k a n w t e = false := by unfold reqB; rw [hW2, Bool.false_and, Bool.false_and]
    simp only [hW2, Bool.false_eq_true, if_false, er]
    exact reqOkS_j0_no k a n w t e
theorem spacesS_j1 (k a n : Int) (w : List Int) (t : List Bool) (e : Int) (b : Bool) (hb : b = decide (k = 6 ∨ k = 22)) :
    Ev (fun r => spec_Spaces.j1 r k b k a n w t e) (if k = 6 ∨ k = 22 then (2, a, 1) else if k = 16 then (2, a, (w.length : Int)) else (2, a, n)) := by
  refine evUp ?_
  by_cases h : k = 6 ∨ k = 22
  · have hb2 : b = true := by rw [hb]; exact decide_eq_true h
    simp only [spec_Spaces.j1, hb2, h, if_true]; exact Ev.now _
  · have hb2 : b = false := by rw [hb]; exact decide_eq_false h
    simp only [spec_Spaces.j1, hb2, h, Bool.false_eq_true, if_false]
    split <;> exact Ev.now _
theorem spacesS_j0 (k a n : Int) (w : List Int) (t : List Bool) (e : Int) (b : Bool) (hb : b = decide (k = 5 ∨ k = 15)) :
    Ev (fun r => spec_Spaces.j0 r k b k a n w t e) (if k = 5 ∨ k = 15 then (0, a, (t.length : Int)) else if k = 2 then (1, a, n) else if k = 4 then (3, a, n)
     else if k = 6 ∨ k = 22 then (2, a, 1) else if k = 16 then (2, a, (w.length : Int)) else (2, a, n)) := by
  refine evUp ?_
  by_cases h : k = 5 ∨ k = 15
  · have hb2 : b = true := by rw [hb]; exact decide_eq_true h
    simp only [spec_Spaces.j0, hb2, h, if_true]; exact Ev.now _
  · have hb2 : b = false := by rw [hb]; exact decide_eq_false h
    simp only [spec_Spaces.j0, hb2, h, Bool.false_eq_true, if_false]
    by_cases h2 : k = 2
    · simp only [h2, if_true]; exact Ev.now _
    by_cases h4 : k = 4
    · simp only [h4, Int.reduceEq, if_true, if_false]; exact Ev.now _
    by_cases h6 : k = 6
    · subst h6
      simp only [Int.reduceEq, if_false, if_true]
      exact spacesS_j1 6 a n w t e _ (by decide)
    simp only [h2, h4, h6, if_false]
    have hh := spacesS_j1 k a n w t e (k == 22) (by simp [h6, BEq.beq])
    simp only [h6, false_or] at hh
    simpa only [h6, false_or] using hh
theorem spec_Spaces_ev (k a n : Int) (w : List Int) (t : List Bool) (e : Int) (hw : w.length ≤ 1048576) (ht : t.length ≤ 1048576) : Ev (fun r => spec_Spaces.f r k a n w t e) (spacesOf k a n w t e) := by
  simp only [spec_Spaces.f, spacesOf]
  refine evBind (spec_ReqOk_ev k a n w t e hw ht) ?_
  by_cases hr : reqB k a n w t e = true
  · simp only [hr, if_true]
    by_cases h1 : k = 1
    · simp only [h1, if_true]; exact Ev.now _
    by_cases h5 : k = 5
    · subst h5
      have hh := spacesS_j0 5 a n w t e (5 == 5) (by decide)
      simp only [Int.reduceEq, if_false, if_true, true_or] at hh ⊢
      exact hh
    simp only [h1, h5, if_false, false_or]
    have hh := spacesS_j0 k a n w t e (k == 15) (by simp [h5, BEq.beq])
    simp only [h5, false_or] at hh
    exact hh
  · simp only [hr, if_false]; exact Ev.now _

theorem specReq_own {w : World} {A4 A5 : Option Addr} {c4 c5 : Nat} {k a n wat : Int} {ws : List Int} {bs : List Bool} (h4 : Kd.C (Kd.int .i64) w A4 ws.length ws) (k4 : ws.length ≤ c4) (h5 : Kd.C Kd.bool w A5 bs.length bs) (k5 : bs.length ≤ c5) (m4 : ws.length ≤ 1048576) (m5 : bs.length ≤ 1048576) : Calls Try.prog 32 #[.agg #[.int .i64 k, .int .i64 a, .int .i64 n, .slice A4 ws.length c4, .slice A5 bs.length c5, .int .i64 wat]] w fun e w' => e = .returned (.bool (reqB k a n ws bs wat)) ∧ Below w.heap.size w w' := by
  obtain ⟨r, hr⟩ := Ev.rounds (spec_ReqOk_ev k a n ws bs wat m4 m5)
  exact spec_ReqOk.calls r k a n A4 c4 ws A5 c5 bs wat _ w h4 k4 h5 k5 hr
theorem specSpaces_own {w : World} {A4 A5 : Option Addr} {c4 c5 : Nat} {k a n wat : Int} {ws : List Int} {bs : List Bool} (h4 : Kd.C (Kd.int .i64) w A4 ws.length ws) (k4 : ws.length ≤ c4) (h5 : Kd.C Kd.bool w A5 bs.length bs) (k5 : bs.length ≤ c5) (m4 : ws.length ≤ 1048576) (m5 : bs.length ≤ 1048576) : Calls Try.prog 57 #[.agg #[.int .i64 k, .int .i64 a, .int .i64 n, .slice A4 ws.length c4, .slice A5 bs.length c5, .int .i64 wat]] w fun e w' => e = .returned (.tuple #[.int .i64 (spacesOf k a n ws bs wat).1, .int .i64 (spacesOf k a n ws bs wat).2.1, .int .i64 (spacesOf k a n ws bs wat).2.2]) ∧ Below w.heap.size w w' := by
  obtain ⟨r, hr⟩ := Ev.rounds (spec_Spaces_ev k a n ws bs wat m4 m5)
  exact spec_Spaces.calls r k a n A4 c4 ws A5 c5 bs wat _ _ _ w h4 k4 h5 k5 hr
end Go.Proofs.Ytiogbjbkfhhdhaa.G
